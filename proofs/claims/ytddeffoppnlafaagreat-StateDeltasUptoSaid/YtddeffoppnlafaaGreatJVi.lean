/- Conditions: none. -/
import Derived.Test.YtddeffoppnlafaaGreatJYw
open Bool renaming and_eq_true->zZr,eq_false_or_eq_true->zUw,false_and->zV7,not_not->zV8,or_eq_false_iff->zUx,true_and->zVf
open ByteArray renaming append->zYx,append_assoc->zUz,size->zZ6,size_append->zV6
open Int renaming le_refl->zW1,toNat->zZ9,toNat_natCast->zW8
open List renaming append->zYz,getD->zZ8,length->zZ5,length_append->zVu,length_set->zVv,set->zYy
open Nat renaming beq->zZu,ble_eq_true_of_le->zVk,blt->zZs,eq_of_beq_eq_true->zWi,le_trans->zZx,mul_le_mul_right->zYb,testBit->zUy,zero_le->zXx
open Sum renaming elim->zZ7,elim_inr->zV9
namespace Go.aH
open Go Go.aH Go.eT
theorem xU(a b:Int):dS (a1 .or .i64 a b):=wrap_i64 _
theorem R7(a b:ByteArray):gp .neq a b= !decide (a=b):=by
 show(!gv a b)=_
 cases h:gv a b with
 |true=>rw[CS.1 h];simp|false=>
  have:a≠b:=λe=>by rw[CS.2 e]at h;cases h
  simp[this]
theorem zmw(a b:ByteArray):gp .eql a b=decide (a=b):=by
 show gv a b=_
 cases h:gv a b with
 |true=>rw[CS.1 h];simp|false=>
  have:a≠b:=λe=>by rw[CS.2 e]at h;cases h
  simp[this]
def dl(D:Nat->Bool)(E:Nat->ByteArray):Nat->Nat->Int->ByteArray->Int × ByteArray
 |0,_,m,s=>(m,s)|n+1,k,m,s=>bif D k then dl D E n (k+1) (a1 .or .i64 m (a1 .shl .i64 1 (k:Int))) (s++E k)else dl D E n (k+1) m s
def ds(D:Nat->Bool)(E:Nat->ByteArray):Nat->Nat->Int->ByteArray->Int × ByteArray
 |0,_,c,s=>(c,s)|n+1,k,c,s=>bif D k then ds D E n (k+1) (c+1) (s++(fo k++E k))else ds D E n (k+1) c s
section
variable {R:Type} {D:Nat->Bool} {E:Nat->ByteArray} {C:Nat}
theorem Ll: ∀(n k:Nat) {m:Int} (s:ByteArray),dS m->dS (dl D E n k m s).1
 |0,_,_,_,h=>h|n+1,k,m,s,h=>by
  unfold dl
  cases D k with
  |true=>exact Ll n (k+1) _ (xU _ _)|false=>exact Ll n (k+1) _ h
theorem Gx: ∀(n k:Nat) (c:Int) (s:ByteArray),c<=(ds D E n k c s).1/\(ds D E n k c s).1<=c+n
 |0,_,c,_=>⟨zW1 _,by show c<=_;omega⟩
 |n+1,k,c,s=>by
  unfold ds
  cases D k with
  |true=>
   have:=Gx n (k+1) (c+1) (s++(fo k++E k));simp only[cond_true];omega
  |false=>
   have:=Gx n (k+1) c s;simp only[cond_false];omega
theorem R8(hR: ∀i,(E i).size<=C): ∀(n k:Nat) (c:Int) (s:ByteArray),(ds D E n k c s).2.size<=s.size+n*(10+C)
 |0,_,_,_=>Nat.le_add_right _ _|n+1,k,c,s=>by
  have:=hR k;have aP:=dx (k:Int);unfold ds;rw[Nat.succ_mul]
  cases D k with
  |true=>
   have:=R8 hR n (k+1) (c+1) (s++(fo k++E k));rw[zV6,zV6]at this;simp only[cond_true];omega
  |false=>
   have:=R8 hR n (k+1) c s;simp only[cond_false];omega
theorem R9{N:Nat}{b:Nat->Int × (List Int) × Bool->Step R (Int × (List Int) × Bool)}
 (af: ∀i c,i<N->∃v,b i c= .bJ (bif D i then(a1 .or .i64 c.1 (a1 .shl .i64 1 (i:Int)),c.2.1++cx.den .da (E i),v)else(c.1,c.2.1,v))):
 ∀(n k:Nat) (m:Int) (l:List Int) (v:Bool),k+n<=N->∃dF bC,bI b k n (m,l,v)= .inr ((dl D E n k m (bytesOf l)).1,dF,bC)/\bytesOf dF=(dl D E n k m (bytesOf l)).2
 |0,_,_,l,v,_=>⟨l,v,rfl,rfl⟩|n+1,k,m,l,v,an=>by
  obtain⟨u,hu⟩:=af k (m,l,v) (by omega)
  unfold dl;simp only[bI,hu]
  cases D k with
  |true=>
   obtain⟨dF,bC,aa,ae⟩:=R9 af n (k+1) (a1 .or .i64 m (a1 .shl .i64 1 (k:Int))) (l++cx.den .da (E k)) u (by omega)
   rw[Lm]at aa ae;exact⟨dF,bC,aa,ae⟩
  |false=>exact R9 af n (k+1) m l u (by omega)
theorem Sa{N:Nat}{b:Nat->Int × ByteArray->Step R (Int × ByteArray)}
 (af: ∀i c,i<N->b i c= .bJ (bif D i then(a1 .or .i64 c.1 (a1 .shl .i64 1 (i:Int)),c.2++E i)else c)):
 ∀(n k:Nat) (m:Int) (s:ByteArray),k+n<=N->bI b k n (m,s)= .inr (dl D E n k m s)
 |0,_,_,_,_=>rfl|n+1,k,m,s,an=>by
  unfold dl;simp only[bI,af k (m,s) (by omega)]
  cases D k with
  |true=>exact Sa af n (k+1) _ _ (by omega)|false=>exact Sa af n (k+1) _ _ (by omega)
theorem Sb{N:Nat}{b:Nat->Int × (List Int) × Bool->Step R (Int × (List Int) × Bool)}
 (af: ∀i c,i<N->0<=c.1->c.1<=(i:Int)->∃v,b i c= .bJ (bif D i then(c.1+1,c.2.1++cx.den .da (fo i++E i),v)else(c.1,c.2.1,v))):
 ∀(n k:Nat) (m:Int) (l:List Int) (v:Bool),0<=m->m<=k->k+n<=N->∃dF bC,bI b k n (m,l,v)= .inr ((ds D E n k m (bytesOf l)).1,dF,bC)/\bytesOf dF=(ds D E n k m (bytesOf l)).2
 |0,_,_,l,v,_,_,_=>⟨l,v,rfl,rfl⟩|n+1,k,m,l,v,aP,aa,an=>by
  obtain⟨u,hu⟩:=af k (m,l,v) (by omega) aP aa
  unfold ds;simp only[bI,hu]
  cases D k with
  |true=>
   obtain⟨dF,bC,aa,ae⟩:=Sb af n (k+1) (m+1) (l++cx.den .da (fo k++E k)) u (by omega) (by omega) (by omega)
   rw[Lm]at aa ae;exact⟨dF,bC,aa,ae⟩
  |false=>exact Sb af n (k+1) m l u aP (by omega) (by omega)
theorem Sc{N:Nat}{b:Nat->Int × ByteArray->Step R (Int × ByteArray)}
 (af: ∀i c,i<N->0<=c.1->c.1<=(i:Int)->b i c= .bJ (bif D i then(c.1+1,c.2++(fo i++E i))else c)):
 ∀(n k:Nat) (m:Int) (s:ByteArray),0<=m->m<=k->k+n<=N->bI b k n (m,s)= .inr (ds D E n k m s)
 |0,_,_,_,_,_,_=>rfl|n+1,k,m,s,aP,aa,an=>by
  unfold ds;simp only[bI,af k (m,s) (by omega) aP aa]
  cases D k with
  |true=>exact Sc af n (k+1) _ _ (by omega) (by omega) (by omega)|false=>exact Sc af n (k+1) _ _ aP (by omega) (by omega)
end
theorem zmx{a b:Int}{s t:ByteArray}(ba:dS a)(af:dS b)(h:fo a++s=fo b++t):a=b:=by
 have aa:=Sd (pJ ba) s;have ae:=Sd (pJ af) t;have h:jw (gF a)++s=jw (gF b)++t:=h;rw[h,ae]at aa;have aw:((gF b:Nat):Int)=(gF a:Nat):=congrArg Prod.fst aa;have aN:gF b=gF a:=by omega
 rw[<-Se a,<-Se b,aN]
theorem zmy{α:Type}{e:α->ByteArray}{d:α}{l m:List α}(au:l.length<=40)(hm:m.length<=40)(h:jd e d l=jd e d m):l.length=m.length:=by
 have:=zmx (jJ au) (jJ hm) h;omega
end Go.aH
namespace Go.aH
open Go Go.aH Go.eT
def uA(a b:aY)(i:Nat):Bool:=bif zZu i 2 then !decide (a.bm.length=b.bm.length)else !decide (kn a i=kn b i)
def kQ(a b:List bf)(i:Nat):Bool:=!decide (kR (zZ8 a i (aZ .bf))=kR (zZ8 b i (aZ .bf)))
def ko(b:List bf)(i:Nat):ByteArray:=bif zZs i b.length then kR (zZ8 b i (aZ .bf))else⟨#[]⟩
theorem za9(i:Nat):((i:Int)==2)=zZu i 2:=by
 cases h:zZu i 2 with
 |true=>rw[zWi h];rfl|false=>
  have ae:i≠2:=Nat.ne_of_beq_eq_false h;have: ¬(i:Int)=2:=by omega
  simpa using this
theorem CT{α β:Type}(l:List α)(m:List β):((l.length:Int)==(m.length:Int))=decide (l.length=m.length):=by
 by_cases h:l.length=m.length
 ·simp[h]
 ·have: ¬(l.length:Int)=m.length:=by omega
  simp[h,this]
theorem wrap_small{c:Int}(aP:0<=c)(aa:c<=100):IntKind.wrap .i64 (c+1)=c+1:=iz _ (by omega) (by omega)
theorem zmz{b:List bf}(h:jx uB b)(i:Nat):(ko b i).size<=268435456:=by
 unfold ko
 cases af:zZs i b.length with
 |true=>
  have:i<b.length:=Nat.le_of_ble_eq_true af;exact CU (h.2 _ (nA this))
 |false=>exact zXx _
section
variable {a b:aY}
def delta(a b:aY):ByteArray:=
 let q:=dl (uA a b) (kn b) 10 0 0 ⟨#[]⟩
 bif decide (a.bm.length=b.bm.length)then
  let r:=ds (kQ a.bm b.bm) (ko b.bm) b.bm.length 0 0 ⟨#[]⟩
  bif r.1==0 then fo q.1++q.2 else fo (a1 .or .i64 q.1 1024)++(q.2++(fo r.1++r.2))
 else fo q.1++q.2
theorem Ln:bytesOf ([]:List Int)=⟨#[]⟩:=rfl
theorem zfn(ba:oZ a)(af:oZ b):A7 a b=delta a b:=by
 have i0:dS (0:Int):=pK;unfold A7
 obtain⟨l,v,aa,ae⟩:=R9 (R:=ByteArray) (D:=uA a b) (E:=kn b) (N:=10) (b:=λ(i5:Nat) (bd:Int × (List Int) × Bool)=>
  show Step (ByteArray) (Int × (List Int) × Bool)from
  let bG:Int->(List Int)->Bool->Step (ByteArray) (Int × (List Int) × Bool):=λbg ch cz=>
   .bJ (bg,ch,cz)
  let bg:=vd b (i5:Int)
  bif((gp .eql bg (vd a (i5:Int)))||(((i5:Int)==2)&&((zZ5 a.bm:Int)==(zZ5 b.bm:Int))))then
   bG bd.1 bd.2.1 bd.2.2
  else
   let aQ:Bool->Step (ByteArray) (Int × (List Int) × Bool):=λcK=>
    bG (a1 .or .i64 bd.1 (a1 .shl .i64 (1:Int) (i5:Int))) (zYz bd.2.1 (cx.den .da bg)) cK
   bif !bd.2.2 then
    aQ true
   else
    aQ bd.2.2) (λi c hi=>by
   dsimp only;rw[Sf ba i hi,Sf af i hi,zmw,za9,CT]
   have kA:(decide (kn b i=kn a i)||(zZu i 2&&decide (a.bm.length=b.bm.length)))= !uA a b i:=by
    unfold uA
    cases ae:zZu i 2 with
    |false=>
     simp only[zV7,Bool.or_false,cond_false,zV8];exact decide_eq_decide.2 ⟨λh=>h.symm,λh=>h.symm⟩
    |true=>
     have ae:=zWi ae;subst ae;simp only[zVf,cond_true,zV8]
     by_cases au:a.bm.length=b.bm.length
     ·simp[au]
     ·have:kn b 2≠kn a 2:=λe=>au (zmy af.2.1.1 ba.2.1.1 e).symm
      simp[au,this]
   rw[kA]
   cases uA a b i with
   |false=>exact⟨c.2.2,rfl⟩|true=>
    cases c.2.2 with
    |true=>exact⟨true,rfl⟩
    |false=>exact⟨true,rfl⟩) 10 0 0 [] false (by decide)
 refine(congrArg (zZ7 _ _) aa).trans ?_;rw[Ln]at ae;simp only[zV9,Ln];rw[ae,CT];unfold delta;have hm:=Ll (D:=uA a b) (E:=kn b) 10 0 ⟨#[]⟩ i0;dsimp only
 cases au:decide (a.bm.length=b.bm.length)with
 |false=>
  simp only[cond_false];rw[bM.int.eq hm];rfl
 |true=>
  have au:=of_decide_eq_true au;simp only[cond_true];have g1:=ba.2.1;have g2:=af.2.1
  obtain⟨yp,v2,eG,eO⟩:=Sb (R:=ByteArray) (D:=kQ a.bm b.bm) (E:=ko b.bm) (N:=b.bm.length) (b:=λ(i11:Nat) (bz:Int × (List Int) × Bool)=>
   show Step (ByteArray) (Int × (List Int) × Bool)from
   let bG:Int->(List Int)->Bool->Step (ByteArray) (Int × (List Int) × Bool):=λbY v46 ep=>
    .bJ (bY,v46,ep)
   let bY:bf:=zZ8 b.bm (zZ9 (i11:Int)) (aZ .bf)
   let cg:=oL bY
   let ch:bf:=zZ8 a.bm (zZ9 (i11:Int)) (aZ .bf)
   bif(gp .neq cg (oL ch))then
    let v20:=zYx (cX (i11:Int)) cg
    let aQ:Bool->Step (ByteArray) (Int × (List Int) × Bool):=λv21=>
     bG (IntKind.wrap .i64 (bz.1+(1:Int))) (zYz bz.2.1 (cx.den .da v20)) v21
    bif !bz.2.2 then
     aQ true
    else
     aQ bz.2.2
   else
    bG bz.1 bz.2.1 bz.2.2) (λi c hi aP aa=>by
    have aE:oL (zZ8 b.bm i (aZ .bf))=kR (zZ8 b.bm i (aZ .bf)):=bM.ga.eq (g2.2 _ (nA hi));have bc:oL (zZ8 a.bm i (aZ .bf))=kR (zZ8 a.bm i (aZ .bf)):=bM.ga.eq (g1.2 _ (nA (by omega)))
    have cJ:cX (i:Int)=fo i:=bM.int.eq (by have:=g2.1;exact⟨by omega,by omega⟩)
    have ek:ko b.bm i=kR (zZ8 b.bm i (aZ .bf)):=by
     unfold ko;rw[show zZs i b.bm.length=true from zVk hi];rfl
    dsimp only;rw[zW8,aE,bc,cJ,R7,wrap_small aP (by have:=g2.1;omega),ek]
    have kA:(!decide (kR (zZ8 b.bm i (aZ .bf))=kR (zZ8 a.bm i (aZ .bf))))=kQ a.bm b.bm i:=by
     unfold kQ;exact congrArg _ (decide_eq_decide.2 ⟨λh=>h.symm,λh=>h.symm⟩)
    rw[kA]
    cases kQ a.bm b.bm i with
    |false=>exact⟨c.2.2,rfl⟩|true=>
     cases c.2.2 with
     |true=>exact⟨true,rfl⟩
     |false=>exact⟨true,rfl⟩) b.bm.length 0 0 [] false (zW1 _) (zW1 _) (by omega)
  rw[zW8];refine(congrArg (zZ7 _ _) eG).trans ?_;rw[Ln]at eO;simp only[zV9,Ln];rw[eO];have hn:=Gx (D:=kQ a.bm b.bm) (E:=ko b.bm) b.bm.length 0 0 ⟨#[]⟩;have ao:dS (ds (kQ a.bm b.bm) (ko b.bm) b.bm.length 0 0 ⟨#[]⟩).1:=by have:=g2.1;exact⟨by omega,by omega⟩
  cases (ds (kQ a.bm b.bm) (ko b.bm) b.bm.length 0 0 ⟨#[]⟩).1==0 with
  |true=>
   simp only[cond_true];rw[bM.int.eq hm];rfl
  |false=>
   simp only[cond_false];rw[bM.int.eq (xU _ _),bM.int.eq ao];simp only[j5,zUz]
end
end Go.aH
namespace Go.aH
open Go Go.aH Go.eT
theorem zmA{b:List bf}{i:Nat}(hi:i<b.length):ko b i=kR (zZ8 b i (aZ .bf)):=by
 unfold ko;rw[show zZs i b.length=true from zVk hi];rfl
theorem Lo{x i C:Nat}(h:x<=i*C):x<=(i+1)*C:=zZx h (zYb C (Nat.le_succ i))
section
variable {a b:List bf}
theorem zba(ba:jx uB a)(af:jx uB b)(au:a.length=b.length):EC a b=ds (kQ a b) (ko b) b.length 0 0 ⟨#[]⟩:=by
 unfold EC;refine Eq.trans (congrArg (zZ7 _ _) (Sc (D:=kQ a b) (E:=ko b) (N:=b.length) (λi c hi aP aa=>?_) (zZ9 (b.length:Int)) 0 0 ⟨#[]⟩ (zW1 _) (zW1 _) (by rw[zW8];omega))) ?_
 ·have aE:nY (zZ8 b i (aZ .bf))=kR (zZ8 b i (aZ .bf)):=bP.ga.eq (af.2 _ (nA hi))
  have bc:nY (zZ8 a i (aZ .bf))=kR (zZ8 a i (aZ .bf)):=bP.ga.eq (ba.2 _ (nA (by omega)))
  have cJ:dm (i:Int)=fo i:=bP.int.eq (by have:=af.1;exact⟨by omega,by omega⟩)
  dsimp only;rw[zW8,aE,bc,cJ,R7,wrap_small aP (by have:=af.1;omega),zmA hi]
  show(bif kQ a b i then _ else _)=_
  cases kQ a b i with
  |false=>rfl|true=>simp only[cond_true,j5,zUz]
 ·rw[zW8]
  rfl
end
section
variable {a b:aY}
theorem zfo(ba:oZ a)(af:oZ b):A8 a b=delta a b:=by
 have i0:dS (0:Int):=pK;have hm:=Ll (D:=uA a b) (E:=kn b) 10 0 ⟨#[]⟩ i0;unfold A8;refine Eq.trans (congrArg (zZ7 _ _) (Sa (D:=uA a b) (E:=kn b) (N:=10) (λi c hi=>?_) (zZ9 (10:Int)) 0 0 ⟨#[]⟩ (by decide))) ?_
 ·dsimp only
  rw[Sg ba i hi,Sg af i hi,R7,za9]
  have hn:((a.bm.length:Int) != (b.bm.length:Int))= !decide (a.bm.length=b.bm.length):=by
   show(!((a.bm.length:Int)==(b.bm.length:Int)))=_;rw[CT]
  rw[hn];unfold uA
  cases zZu i 2 with
  |true=>cases decide (a.bm.length=b.bm.length)<;>rfl
  |false=>cases decide (kn a i=kn b i)<;>rfl
 ·show(let q:=dl (uA a b) (kn b) 10 0 0 ⟨#[]⟩;_)=_
  unfold delta;dsimp only[zV9];rw[CT,show zZ9 10=10 from rfl]
  cases au:decide (a.bm.length=b.bm.length)with
  |false=>
   simp only[cond_false];rw[bP.int.eq hm];rfl
  |true=>
   have au:=of_decide_eq_true au;simp only[cond_true];have g2:=af.2.1;rw[zba ba.2.1 g2 au];have hn:=Gx (D:=kQ a.bm b.bm) (E:=ko b.bm) b.bm.length 0 0 ⟨#[]⟩;have ao:dS (ds (kQ a.bm b.bm) (ko b.bm) b.bm.length 0 0 ⟨#[]⟩).1:=by have:=g2.1;exact⟨by omega,by omega⟩
   by_cases aW:(ds (kQ a.bm b.bm) (ko b.bm) b.bm.length 0 0 ⟨#[]⟩).1=0
   ·have aa:decide ((ds (kQ a.bm b.bm) (ko b.bm) b.bm.length 0 0 ⟨#[]⟩).1>0)=false:=decide_eq_false (by omega)
    have ae:((ds (kQ a.bm b.bm) (ko b.bm) b.bm.length 0 0 ⟨#[]⟩).1==0)=true:=by simpa using aW
    rw[aa,ae];simp only[cond_true,cond_false];rw[bP.int.eq hm];rfl
   ·have aa:decide ((ds (kQ a.bm b.bm) (ko b.bm) b.bm.length 0 0 ⟨#[]⟩).1>0)=true:=decide_eq_true (by omega)
    have ae:((ds (kQ a.bm b.bm) (ko b.bm) b.bm.length 0 0 ⟨#[]⟩).1==0)=false:=by simpa using aW
    rw[aa,ae];simp only[cond_true,cond_false];rw[bP.int.eq (xU _ _),bP.int.eq ao];simp only[j5,zUz]
theorem zmB{a b:List bf}(ba:jx uB a)(af:jx uB b)(au:a.length=b.length):I0 a b:=by
 unfold I0;intro v2;have g:=af.1;refine⟨λi c=>c.2.size<=i*268435466/\0<=c.1/\c.1<=i,⟨zXx _,zW1 _,zW1 _⟩,λi c hi ⟨aa,ae,aw⟩=>?_⟩;have hi:i<b.length:=by have hi:i<zZ9 (b.length:Int):=hi;rwa[zW8]at hi
 have eG:=ba.2 _ (nA (d:=aZ .bf) (show i<a.length by omega))
 have eO:=af.2 _ (nA (d:=aZ .bf) hi);have aE:nY (zZ8 b i (aZ .bf))=kR (zZ8 b i (aZ .bf)):=bP.ga.eq eO;have ii:dS (i:Int):=⟨by omega,by omega⟩
 have ue:=CU eO;have z2:=dx (i:Int);dsimp only;rw[zW8,aE,bP.int.eq ii];refine⟨⟨by omega,by omega⟩,bP.ga.ok eG,bP.ga.ok eO,λ_=>⟨bP.int.ok ii,by omega,bP.ga.ok eO,?_,?_,?_,?_⟩,λ_=>⟨?_,ae,?_⟩⟩
 ·rw[j5,zV6];omega
 ·show((c.2++fo i)++kR _).size<=(i+1)*268435466
  rw[zV6,zV6];omega
 ·rw[wrap_small ae (by omega)];omega
 ·rw[wrap_small ae (by omega)];omega
 ·exact Lo aa
 ·show c.1<=((i+1:Nat):Int)
  omega
theorem zfm(ba:oZ a)(af:oZ b):DY a b:=by
 unfold DY;intro aX;refine⟨λi c=>dS c.1/\c.2.size<=i*10737418250,⟨pK,zXx _⟩,λi c hi ⟨aa,ae⟩=>?_,λc ⟨aa,ae⟩=>?_⟩
 ·have hi:i<10:=hi
  have z:=zbb af i;dsimp only;rw[Sg af i hi]
  have key: ∀v:Bool,(v=true->((0<=(i:Int))/\(y9 b (i:Int))/\(zZ6 c.2+zZ6 (kn b i)<=9223372036854775807)/\(dS (a1 .or .i64 c.1 (a1 .shl .i64 (1:Int) (i:Int)))/\(zYx c.2 (kn b i)).size<=(i+1)*10737418250)))/\(v=false->(dS c.1/\c.2.size<=(i+1)*10737418250)):=λv=>
   ⟨λ_=>⟨by omega,Sh af _,by omega,xU _ _,by rw[j5,zV6];omega⟩,λ_=>⟨aa,Lo ae⟩⟩
  exact⟨Sh ba _,Sh af _,λ_=>key _,λ_=>key _⟩
 ·have ae:c.2.size<=10*10737418250:=ae
  have key: ∀(v4:Int) (v5:ByteArray),dS v4->v5.size<=1073741825000->(fX v4)/\(dm v4).size+v5.size<=9223372036854775807:=λv4 v5 g1 g2=>by
   rw[bP.int.eq g1];have:=dx v4;exact⟨bP.int.ok g1,by omega⟩
  unfold aX;dsimp only;rw[CT];refine⟨λau=>?_,λ_=>key _ _ aa (zZx ae (by decide))⟩
  have au:=of_decide_eq_true au;have g2:=af.2.1;have mo:=g2.1;rw[zba ba.2.1 g2 au];have hn:=Gx (D:=kQ a.bm b.bm) (E:=ko b.bm) b.bm.length 0 0 ⟨#[]⟩;have aW:=R8 (D:=kQ a.bm b.bm) (E:=ko b.bm) (C:=268435456) (λi=>zmz g2 i) b.bm.length 0 0 ⟨#[]⟩;generalize ds (kQ a.bm b.bm) (ko b.bm) b.bm.length 0 0 ⟨#[]⟩=r at hn aW⊢;have aW:r.2.size<=0+b.bm.length*(10+268435456):=aW;have ao:dS r.1:=⟨by omega,by omega⟩
  have ue:=dx r.1;have hm:b.bm.length*(10+268435456)<=40*(10+268435456):=zYb _ mo;rw[bP.int.eq ao];refine⟨zmB ba.2.1 g2 au,λ_=>⟨bP.int.ok ao,by omega,?_,key _ _ (xU _ _) ?_⟩,λ_=>key _ _ aa (zZx ae (by decide))⟩
  ·rw[j5,zV6];omega
  ·rw[j5,j5,zV6,zV6];omega
theorem zfl(ba:oZ a)(af:oZ b):DX a b:=by
 unfold DX;intro aX;refine⟨λi c=>dS c.1/\c.2.1.length<=i*10737418250,⟨pK,zXx _⟩,λi c hi ⟨aa,ae⟩=>?_,λc ⟨aa,ae⟩=>?_⟩
 ·have hi:i<10:=hi
  have z:=zbb af i;have ae:c.2.1.length<=i*10737418250:=ae;dsimp only;rw[Sf af i hi]
  have key:(zZ5 c.2.1+zZ5 (cx.den .da (kn b i):List Int)<=maxLen/\(zZ5 c.2.1+zZ5 (cx.den .da (kn b i):List Int))*1<=140737488355328)/\(dS (a1 .or .i64 c.1 (a1 .shl .i64 (1:Int) (i:Int)))/\(zYz c.2.1 (cx.den .da (kn b i))).length<=(i+1)*10737418250):=by
   rw[xV];refine⟨⟨by simp only[maxLen];omega,by omega⟩,xU _ _,?_⟩
   show(c.2.1++_).length<=_;rw[zVu,xV];omega
  exact⟨zbc af _,zbc ba _,λ_=>⟨aa,Lo ae⟩,λ_=>⟨by omega,λ_=>key,λ_=>key⟩⟩
 ·have ae:c.2.1.length<=10*10737418250:=ae
  have z0:(bytesOf c.2.1).size=c.2.1.length:=vY _;unfold aX;dsimp only;rw[CT];have ue:=dx c.1;rw[bM.int.eq aa];refine⟨λau=>?_,λ_=>⟨bM.int.ok aa,by omega⟩⟩
  have au:=of_decide_eq_true au;have g1:=ba.2.1;have g2:=af.2.1;have mo:=g2.1;refine⟨λi d=>(0<=d.1/\d.1<=i)/\d.2.1.length<=i*268435466,⟨⟨zW1 _,zW1 _⟩,zXx _⟩,λi d hi ⟨⟨eG,eO⟩,mL⟩=>?_,λd ⟨⟨eG,eO⟩,mL⟩=>?_⟩
  ·have hi:i<b.bm.length:=by have hi:i<zZ9 (b.bm.length:Int):=hi;rwa[zW8]at hi
   have mL:d.2.1.length<=i*268435466:=mL;have v1:=g1.2 _ (nA (d:=aZ .bf) (show i<a.bm.length by omega))
   have v2:=g2.2 _ (nA (d:=aZ .bf) hi);have aE:oL (zZ8 b.bm i (aZ .bf))=kR (zZ8 b.bm i (aZ .bf)):=bM.ga.eq v2;have ii:dS (i:Int):=⟨by omega,by omega⟩
   have y1:=CU v2;have ir:=dx (i:Int);rw[zW8,aE,bM.int.eq ii,wrap_small eG (by omega)]
   have key:(zZ5 d.2.1+zZ5 (cx.den .da (zYx (fo i) (kR (zZ8 b.bm i (aZ .bf)))):List Int)<=maxLen/\(zZ5 d.2.1+zZ5 (cx.den .da (zYx (fo i) (kR (zZ8 b.bm i (aZ .bf)))):List Int))*1<=140737488355328)/\((0<=d.1+1/\d.1+1<=((i+1:Nat):Int))/\(zYz d.2.1 (cx.den .da (zYx (fo i) (kR (zZ8 b.bm i (aZ .bf)))))).length<=(i+1)*268435466):=by
    rw[xV,j5,zV6];refine⟨⟨by simp only[maxLen];omega,by omega⟩,⟨by omega,by omega⟩,?_⟩
    show(d.2.1++_).length<=_;rw[zVu,xV,zV6];omega
   exact⟨bM.ga.ok v2,⟨by omega,by omega⟩,bM.ga.ok v1,λ_=>⟨bM.int.ok ii,by omega,λ_=>key,λ_=>key⟩,λ_=>⟨⟨eG,by show d.1<=((i+1:Nat):Int);omega⟩,Lo mL⟩⟩
  ·rw[zW8]at eO mL
   have z2:(bytesOf d.2.1).size=d.2.1.length:=vY _;have mL:d.2.1.length<=b.bm.length*268435466:=mL;have hm:b.bm.length*268435466<=40*268435466:=zYb _ mo;have ao:dS d.1:=⟨by omega,by omega⟩
   have z3:=dx d.1;have z4:=dx (a1 .or .i64 c.1 1024);rw[bM.int.eq (xU c.1 1024),bM.int.eq ao];simp only[j5,zV6];exact⟨λ_=>⟨bM.int.ok aa,by omega⟩,λ_=>⟨bM.int.ok (xU _ _),by omega,bM.int.ok ao,by omega,by omega⟩⟩
end
end Go.aH
namespace Go.aH
open Go Go.aH Go.eT
def sZ(c:Bool)(r:Rd):Unit × Rd:=((),bif(cl r==0)&&c then lj r 4 else r)
def vZ(c:Bool)(q:bF):Unit × bF:=((),bif(bQ q==0)&&c then kS q 4 else q)
theorem dT.zmC(c:Bool):dT (sZ c) (vZ c):=by
 refine⟨λr q h=>⟨?_,λ_=>rfl⟩,λr h=>?_,λq h=>?_⟩
 ·unfold sZ vZ
  rw[j6 h]
  cases (bQ q==0)&&c with
  |true=>exact zbd 4 h|false=>exact h
 ·have:(cl r==0)=false:=by simpa using h
  simp only[sZ,this,zV7,cond_false]
 ·have:(bQ q==0)=false:=by simpa using h
  simp only[vZ,this,zV7,cond_false]
def uC(N:Int)(last i:Int):Bool:=decide (i<=last)||decide (i>=N)
def kp(N:Int)(last:Int)(l:List bf):Rd->(Int × List bf) × Rd:=bu bk λi=>bu (sZ (uC N last i)) λ_=>bu m0 λx=>cD (i,l.set i.toNat x)
def nB(N:Int)(last:Int)(l:List bf):bF->(Int × List bf) × bF:=bu bL λi=>bu (vZ (uC N last i)) λ_=>bu nC λx=>cD (i,l.set i.toNat x)
theorem dT.one(N last:Int)(l:List bf):dT (kp N last l) (nB N last l):=.bu .int λ_=>.bu (.zmC _) λ_=>.bu .ga λ_=>.cD _
def pL(N:Int):Nat->Int->List bf->Rd->List bf × Rd
 |0,_,l,r=>(l,r)|n+1,last,l,r=>bif cl (kp N last l r).2 != 0 then(l,(kp N last l r).2)else pL N n (kp N last l r).1.1 (kp N last l r).1.2 (kp N last l r).2
def rC(N:Int):Nat->Int->List bf->bF->List bf × bF
 |0,_,l,q=>(l,q)|n+1,last,l,q=>bif bQ q==0 then(bif bQ (nB N last l q).2==0 then rC N n (nB N last l q).1.1 (nB N last l q).1.2 (nB N last l q).2 else rC N n last l (nB N last l q).2)else(l,q)
theorem Si{N:Int}{q:bF}(h:bQ q≠0): ∀n last l,rC N n last l q=(l,q)
 |0,_,_=>rfl|n+1,_,_=>by
  have:(bQ q==0)=false:=by simpa using h
  simp only[rC,this,cond_false]
theorem zbe{N:Int}(n:Nat)(last:Int)(l:List bf):iu (pL N n last l):=λr ah=>by
 cases n with
 |zero=>rfl|succ n=>
  have aP:=(dT.one N last l).z7 r ah;have aa:(cl (kp N last l r).2 != 0)=true:=by rw[aP];simpa using ah
  simp only[pL,aa,cond_true];exact aP
theorem zbf{N:Int}: ∀(n:Nat) (last:Int) (l:List bf) (r:Rd) (q:bF),jy r q->cl r=0->jy (pL N n last l r).2 (rC N n last l q).2/\(cl (pL N n last l r).2=0->(pL N n last l r).1=(rC N n last l q).1)
 |0,_,_,r,q,ah,_=>⟨ah,λ_=>rfl⟩
 |n+1,last,l,r,q,ah,he=>by
  obtain⟨g1,g2⟩:=(dT.one N last l).Gy r q ah;have jq:bQ q=0:=by rw[<-j6 ah];exact he
  simp only[pL,rC,jq,beq_self_eq_true,cond_true]
  by_cases aa:cl (kp N last l r).2=0
  ·have ae:bQ (nB N last l q).2=0:=by rw[<-j6 g1];exact aa
   simp only[aa,ae,bne_self_eq_false,beq_self_eq_true,cond_false,cond_true];rw[g2 aa];exact zbf n _ _ _ _ g1 aa
  ·have ae:bQ (nB N last l q).2≠0:=by rw[<-j6 g1];exact aa
   have aw:(cl (kp N last l r).2 != 0)=true:=by simpa using aa
   have aN:(bQ (nB N last l q).2==0)=false:=by simpa using ae
   simp only[aw,aN,cond_true,cond_false];rw[Si ae];exact⟨g1,λh=>absurd h aa⟩
theorem dT.some(N:Int)(n:Nat)(last:Int)(l:List bf):dT (pL N n last l) (rC N n last l):=by
 refine⟨λr q ah=>?_,zbe n last l,λq h=>by rw[Si h]⟩
 by_cases he:cl r=0
 ·exact zbf n last l r q ah he
 ·have jq:bQ q≠0:=by rw[<-j6 ah];exact he
  rw[zbe n last l r he,Si jq];exact⟨ah,λh=>absurd h he⟩
theorem dT.count(m:Int):dT (λr=>cL r m) (λq=>cW q m):=⟨(Lp m).w,iu.count m,jR.count m⟩
def s0(s:aY):Rd->aY × Rd:=bu (λr=>cL r 256) λn=>bu (pL (s.bm.length:Int) n.toNat (-1) s.bm) λl=>cD {s with bm:=l}
def v7(s:aY):bF->aY × bF:=bu (λq=>cW q 256) λn=>bu (rC (s.bm.length:Int) n.toNat (-1) s.bm) λl=>cD {s with bm:=l}
theorem dT.zbg(s:aY):dT (s0 s) (v7 s):=.bu (.count 256) λ_=>.bu (.some _ _ _ _) λ_=>.cD _
def et(m:Int)(i:Nat):Bool:=zUy m.toNat i
def H6(a:aY)(m:Int):Rd->aY × Rd:=bu (r3 (IntKind.wrap .u64) (et m) 10 0 a) λs=>bif et m 10 then s0 s else cD s
def Lq(a:aY)(m:Int):bF->aY × bF:=bu (z8 (IntKind.wrap .u64) (et m) 10 0 a) λs=>bif et m 10 then v7 s else cD s
theorem dT.patch(a:aY)(m:Int):dT (H6 a m) (Lq a m):=by
 refine .bu (.Sj _ _ _ _ _) λs=>?_
 cases et m 10 with
 |true=>exact .zbg s|false=>exact .cD s
def na(m:Int):Bool:=decide (m<0)||decide (m>2047)||(et m 2&&et m 10)
def yz(a:aY)(mz:Rd):aY × Int:=
 bif cl (bk mz).2 != 0 then(dD,cl (bk mz).2)else
 bif na (bk mz).1 then(dD,4)else p1 (H6 a (bk mz).1 (bk mz).2)
def Lr(a:aY)(gQ:bF):aY × Int:=
 bif bQ (bL gQ).2 != 0 then(dD,bQ (bL gQ).2)else
 bif na (bL gQ).1 then(dD,4)else pM (Lq a (bL gQ).1 (bL gQ).2)
theorem zmD{p:aY × Rd}{q:aY × bF}(g1:jy p.2 q.2)(g2:cl p.2=0->p.1=q.1):p1 p=pM q:=by
 unfold p1 pM;rw[zmE g1]
 by_cases aW:pN q.2=0
 ·rw[if_pos aW,if_pos aW,g2 (by
   rw[j6 g1]
   by_cases he:bQ q.2=0
   ·exact he
   ·exfalso
    unfold pN at aW;rw[show(bQ q.2 != 0)=true by simpa using he]at aW
    exact he aW)]
 ·rw[if_neg aW,if_neg aW]
theorem zfh{x:ByteArray}(h:b7 x)(a:aY):yz a (kC x)=Lr a (kT x):=by
 obtain⟨g1,g2⟩:=Aa (kC x) (kT x) (zbh h);unfold yz Lr;rw[j6 g2,g1]
 cases (bQ (bL (kT x)).2 != 0)with
 |true=>rfl|false=>
  cases na (bL (kT x)).1 with
  |true=>rfl|false=>
   obtain⟨eG,eO⟩:=(dT.patch a (bL (kT x)).1).Gy _ _ g2;exact zmD eG eO
end Go.aH
namespace Go.aH
open Go Go.aH Go.eT
def iv(c:Int->Int)(p:Nat->Bool):Nat->Nat->aY->bF->aY × bF
 |0,_,s,q=>(s,q)|n+1,i,s,q=>bif(bQ q==0)&&p i then iv c p n (i+1) (s3 c i s q).1 (s3 c i s q).2 else iv c p n (i+1) s q
section
variable {c:Int->Int} {p:Nat->Bool}
theorem Ab{q:bF}(h:bQ q≠0): ∀(n i:Nat) (s:aY),iv c p n i s q=(s,q)
 |0,_,_=>rfl|n+1,i,s=>by
  have:(bQ q==0)=false:=by simpa using h
  simp only[iv,this,zV7,cond_false];exact Ab h n (i+1) s
theorem Sk: ∀(n i:Nat) (s:aY) (q:bF),(iv c p n i s q).2=(z8 c p n i s q).2/\(bQ (iv c p n i s q).2=0->(iv c p n i s q).1=(z8 c p n i s q).1)
 |0,_,_,_=>⟨rfl,λ_=>rfl⟩
 |n+1,i,s,q=>by
  by_cases he:bQ q=0
  ·have aP:(bQ q==0)=true:=by simpa using he
   unfold iv z8;rw[aP,zVf]
   cases p i with
   |true=>exact Sk n (i+1) _ _|false=>exact Sk n (i+1) s q
  ·rw[Ab he,(dT.Sj c p (n+1) i s).CV q he]
   exact⟨rfl,λh=>absurd h he⟩
theorem zmF{i:Nat}(hi:i≠2)(s:aY)(q:bF):(s3 c i s q).1.bm=s.bm:=by
 unfold s3
 split
 ·rfl
 ·rfl
 ·exact absurd rfl hi
 ·rfl
 ·rfl
 ·rfl
 ·rfl
 ·rfl
 ·rfl
 ·rfl
theorem Sl(ae:p 2=false): ∀(n i:Nat) (s:aY) (q:bF),(iv c p n i s q).1.bm=s.bm
 |0,_,_,_=>rfl|n+1,i,s,q=>by
  unfold iv
  cases hc:(bQ q==0)&&p i with
  |false=>exact Sl ae n (i+1) s q|true=>
   have hi:i≠2:=λe=>by rw[e,ae,Bool.and_false]at hc;cases hc
   exact(Sl ae n (i+1) _ _).trans (zmF hi s q)
end
def CW(a:aY)(m:Int)(q:bF):aY × bF:=
 let x:=iv (IntKind.wrap .u64) (et m) 10 0 a q
 bif(bQ x.2==0)&&et m 10 then v7 x.1 x.2 else x
theorem zmG(a:aY)(m:Int)(q:bF):pM (CW a m q)=pM (Lq a m q):=by
 obtain⟨aa,ae⟩:=Sk (c:=IntKind.wrap .u64) (p:=et m) 10 0 a q;unfold CW Lq bu;dsimp only;generalize iv (IntKind.wrap .u64) (et m) 10 0 a q=x at aa ae⊢;generalize z8 (IntKind.wrap .u64) (et m) 10 0 a q=y at aa ae⊢;obtain⟨aU,iW⟩:=x;obtain⟨y1,ir⟩:=y;dsimp only at aa ae⊢;subst aa
 by_cases he:bQ iW=0
 ·have:=ae he
  subst this;have aP:(bQ iW==0)=true:=by simpa using he
  rw[aP,zVf]
  cases et m 10<;>rfl
 ·have aP:(bQ iW==0)=false:=by simpa using he
  have hf: ∀s:aY,pM (s,iW)=(dD,bQ iW):=λs=>by
   have:pN iW=bQ iW:=by
    unfold pN;rw[show(bQ iW != 0)=true by simpa using he];rfl
   unfold pM;rw[if_neg (by rw[this];exact he),this]
  rw[aP,zV7,cond_false,hf]
  cases et m 10 with
  |false=>exact(hf _).symm|true=>
   simp only[cond_true];have aw:=(dT.zbg y1).CV iW he;generalize v7 y1 iW=z at aw⊢;obtain⟨ue,z2⟩:=z;dsimp only at aw;subst aw;exact(hf _).symm
theorem zmH: ∀m:Fin 2048,∀i:Fin 11,(a1 .and .i64 (a1 .shr .i64 (m.1:Int) (i.1:Int)) 1==1)=zUy m.1 i.1:=by decide+kernel
theorem zmI: ∀m:Fin 2048,∀i:Fin 11,(a1 .rem .i64 (a1 .shr .i64 (m.1:Int) (i.1:Int)) 2==1)=zUy m.1 i.1:=by decide+kernel
theorem zmJ: ∀m:Fin 2048,((a1 .and .i64 (m.1:Int) 4 != 0)=zUy m.1 2)/\((a1 .and .i64 (m.1:Int) 1024 != 0)=zUy m.1 10):=by decide+kernel
section
variable {m:Int}
theorem mA(aP:0<=m)(aa:m<=2047){i:Nat}(hi:i<11):(a1 .and .i64 (a1 .shr .i64 m (i:Int)) 1==1)=et m i:=by
 have:=zmH ⟨m.toNat,by omega⟩ ⟨i,hi⟩
 rw[show(m.toNat:Int)=m by omega]at this
 exact this
theorem Ls(aP:0<=m)(aa:m<=2047){i:Nat}(hi:i<11):(a1 .rem .i64 (a1 .shr .i64 m (i:Int)) 2==1)=et m i:=by
 have:=zmI ⟨m.toNat,by omega⟩ ⟨i,hi⟩
 rw[show(m.toNat:Int)=m by omega]at this
 exact this
theorem Sm(aP:0<=m)(aa:m<=2047):((a1 .and .i64 m 4 != 0)=et m 2)/\((a1 .and .i64 m 1024 != 0)=et m 10):=by
 have:=zmJ ⟨m.toNat,by omega⟩
 rw[show(m.toNat:Int)=m by omega]at this
 exact this
end
end Go.aH
namespace Go.aH
open Go Go.aH Go.eT
theorem mB{A X:Type}{F:A->X}{b:(A->X)->X}{y:X}(P:A->Prop)(zbi:A->X)(h: ∀a,P a->F a=zbi a)(af: ∀F,(∀a,P a->F a=zbi a)->b F=y):eo F b=y:=af F h
theorem s4{X:Type}{c:Bool}{x y:X}(h:c=true):(bif c then x else y)=x:=by rw[h];rfl
theorem s5{X:Type}{c:Bool}{x y:X}(h:c=false):(bif c then x else y)=y:=by rw[h];rfl
theorem zmK{X:Type}{c:Bool}{x y z:X}(aa:x=z)(ae:y=z):(bif c then x else y)=z:=by cases c<;>assumption
theorem b8.src:b8 (λr=>kq r 20000) (λr=>qP r 20000) (λr=>yD r 20000):=⟨λh=>Sn h,λh=>Gz h,λh=>So h⟩
theorem hS{α X:Type}{R:Rd->α × Rd}{lU:Rd->Rd × α}{p:Rd->Prop}(h:b8 R lU p){r:Rd}(ah:b7 r.rest){G:α->Rd->X}{A:X}(hF:b7 (lU r).1.rest->A=G (lU r).2 (lU r).1):A=G (R r).1 (R r).2:=by
 rw[h.eq ah]at hF;exact hF (h.eR ah)
def GA(m:Int)(s:aY)(r:Rd):aY × Int:=p1 ((bif et m 10 then s0 s else cD s) r)
def gX(m:Int):Nat->Nat->aY->Rd->aY × Int
 |0,_,s,r=>GA m s r|n+1,i,s,r=>bif et m i then gX m n (i+1) (oh (IntKind.wrap .u64) i s r).1 (oh (IntKind.wrap .u64) i s r).2 else gX m n (i+1) s r
theorem zbj(m:Int)(n i:Nat)(s:aY)(r:Rd):gX m (n+1) i s r=bif et m i then gX m n (i+1) (oh (IntKind.wrap .u64) i s r).1 (oh (IntKind.wrap .u64) i s r).2 else gX m n (i+1) s r:=rfl
theorem iE{m:Int}{n i:Nat}{S:aY}{r:Rd}{c:Bool}{A B:aY × Int}(hc:c=et m i)(ej:A=gX m n (i+1) (oh (IntKind.wrap .u64) i S r).1 (oh (IntKind.wrap .u64) i S r).2)(gO:B=gX m n (i+1) S r):(bif c then A else B)=gX m (n+1) i S r:=by
 rw[zbj,hc,ej,gO]
theorem Sp(m:Int): ∀(n i:Nat) (s:aY) (r:Rd),gX m n i s r=p1 (bu (r3 (IntKind.wrap .u64) (et m) n i s) (λs=>bif et m 10 then s0 s else cD s) r)
 |0,_,_,_=>rfl|n+1,i,s,r=>by
  rw[zbj];have ao:bu (r3 (IntKind.wrap .u64) (et m) (n+1) i s) (λs=>bif et m 10 then s0 s else cD s) r=bu (r3 (IntKind.wrap .u64) (et m) n (i+1) ((bif et m i then oh (IntKind.wrap .u64) i s else cD s) r).1) (λs=>bif et m 10 then s0 s else cD s) ((bif et m i then oh (IntKind.wrap .u64) i s else cD s) r).2:=rfl
  rw[ao]
  cases et m i with
  |true=>exact Sp m n (i+1) _ _|false=>exact Sp m n (i+1) s r
theorem zmL(m:Int)(s:aY)(r:Rd):gX m 10 0 s r=p1 (H6 s m r):=Sp m 10 0 s r
theorem zbk{m:Int}{s:aY}{r:Rd}(h:et m 10=false):gX m 0 10 s r=p1 (s,r):=by
 show GA m s r=_;unfold GA;rw[h];rfl
theorem zmM{m:Int}{s:aY}{r:Rd}(h:et m 10=true):gX m 0 10 s r=p1 (s0 s r):=by
 show GA m s r=_;unfold GA;rw[h];rfl
theorem zbl(s:aY)(r:Rd):(bif((yK r).2 != 0)then((⟨0,⟨#[]⟩,[],[],[],[],⟨#[]⟩,[],0,[]⟩:aY),(yK r).2)else(s,0))=p1 (s,r):=by
 rw[zmN];unfold p1 dD
 by_cases aW:xW r=0
 ·rw[if_pos aW,aW];rfl
 ·rw[if_neg aW,show(xW r != 0)=true by simpa using aW];rfl
section
variable {α ρ:Type} {R:Rd->α × Rd} {m:Rd->Rd × α} {p:Rd->Prop}
theorem v8(h:b8 R m p)(K:List α->ByteArray->Int->Bool->ρ){r:Rd}{v:Rd × Int}(ah:b7 r.rest)(az:v=fD r 256):
 zZ7 (λr=>r) (λc=>K c.1 c.2.1 c.2.2.1 c.2.2.2) (bI (GB m K) 0 (zZ9 v.2) ([],v.1.rest,v.1.err,v.1.made))=K (lV 256 R r).1 (lV 256 R r).2.rest (lV 256 R r).2.err (lV 256 R r).2.made:=by
 rw[s6 ah]at az;rw[az];exact Lt h K _ _ _ (rD ah)
theorem Sq{α ρ:Type}{l:List α}{d:α}{b:Nat->List α->Step ρ (List α)}{K:List α->ρ}(af: ∀i c,b i c= .bJ (zYz c [zZ8 l (zZ9 (i:Int)) d])):
 zZ7 (λr=>r) K (bI b 0 (zZ9 (l.length:Int)) [])=K l:=by
 have key: ∀(n k:Nat) (c:List α),k+n=l.length->bI b k n c= .inr (c++l.drop k):=by
  intro n
  induction n with
  |zero=>intro k c h;rw[List.drop_eq_nil_of_le (by omega),List.append_nil];rfl|succ n bb=>
   intro k c h;have an:k<l.length:=by omega
   simp only[bI,af,zW8];rw[bb (k+1) _ (by omega),List.drop_eq_getElem_cons an]
   show Sum.inr ((c++[zZ8 l k d])++_)=_;rw[List.append_assoc,List.getD_eq_getElem?_getD,List.getElem?_eq_getElem an];rfl
 rw[zW8,key l.length 0 [] (by omega)]
 rfl
end
theorem zmO{c:Bool}{r:Rd}(h:b7 r.rest):b7 (sZ c r).2.rest:=by
 unfold sZ
 cases (cl r==0)&&c with
 |true=>exact Lu h|false=>exact h
theorem zmP{N last:Int}{l:List bf}{r:Rd}(h:b7 r.rest):b7 (kp N last l r).2.rest:=by
 have hd:kp N last l r=(((bk r).1,l.set (bk r).1.toNat (m0 (sZ (uC N last (bk r).1) (bk r).2).2).1),(m0 (sZ (uC N last (bk r).1) (bk r).2).2).2):=rfl;rw[hd];exact Sr (zmO (fk h))
noncomputable def Lv{ρ:Type}(K:List bf->ByteArray->Int->Bool->ρ)(_:Nat)(c:Int × List bf × ByteArray × Int × Bool):Step ρ (Int × List bf × ByteArray × Int × Bool):=
 let v:=ei ⟨c.2.2.1,c.2.2.2.1,c.2.2.2.2⟩
 eo (λ(a:Int × Bool × Bool × Bool × ByteArray × Int × Bool)=>
  let w:=qR ⟨a.2.2.2.2.1,a.2.2.2.2.2.1,a.2.2.2.2.2.2⟩
  let u:=en w.1
  bif(u.2 != 0)then .ret (K c.2.1 u.1.rest u.1.err u.1.made)else .bJ (v.2,(zYy c.2.1 (zZ9 v.2) w.2),u.1.rest,u.1.err,u.1.made))
 λj=>
 let w:=en v.1
 let z:=w.2==0
 let y:Bool:=z&&((decide (v.2<=c.1))||(decide (v.2>=(zZ5 c.2.1:Int))))
 bif y then(let u:=wV w.1 (4:Int);j (w.2,z,z,y,u.rest,u.err,u.made))else j (w.2,z,z,y,w.1.rest,w.1.err,w.1.made)
theorem zmQ{ρ:Type}(K:List bf->ByteArray->Int->Bool->ρ)(k:Nat)(last:Int)(l:List bf){r:Rd}(ah:b7 r.rest):
 Lv K k (last,l,r.rest,r.err,r.made)=bif cl (kp (l.length:Int) last l r).2 != 0 then .ret (K l (kp (l.length:Int) last l r).2.rest (kp (l.length:Int) last l r).2.err (kp (l.length:Int) last l r).2.made)
  else .bJ ((kp (l.length:Int) last l r).1.1,(kp (l.length:Int) last l r).1.2,(kp (l.length:Int) last l r).2.rest,(kp (l.length:Int) last l r).2.err,(kp (l.length:Int) last l r).2.made):=by
 have aE:ei ⟨r.rest,r.err,r.made⟩=((bk r).2,(bk r).1):=gY ah;have aa:=fk ah;have hd:kp (l.length:Int) last l r=(((bk r).1,l.set (bk r).1.toNat (m0 (sZ (uC (l.length:Int) last (bk r).1) (bk r).2).2).1),(m0 (sZ (uC (l.length:Int) last (bk r).1) (bk r).2).2).2):=rfl;rw[hd];unfold Lv eo;simp only[aE,ll,Ss];unfold sZ uC
 cases hc:(cl (bk r).2==0)&&(decide ((bk r).1<=last)||decide ((bk r).1>=(l.length:Int)))with
 |true=>
  have bc:qR ⟨(lj (bk r).2 4).rest,(lj (bk r).2 4).err,(lj (bk r).2 4).made⟩=((m0 (lj (bk r).2 4)).2,(m0 (lj (bk r).2 4)).1):=b8.ga.eq (r:=lj (bk r).2 4) (Lu aa);simp only[cond_true,bc]
 |false=>
  have bc:qR ⟨(bk r).2.rest,(bk r).2.err,(bk r).2.made⟩=((m0 (bk r).2).2,(m0 (bk r).2).1):=b8.ga.eq (r:=(bk r).2) aa;simp only[cond_false,bc]
theorem zmR{ρ:Type}(K:List bf->ByteArray->Int->Bool->ρ)(N:Nat)(n:Nat): ∀(k:Nat) (last:Int) (l:List bf) (r:Rd),l.length=N->b7 r.rest->
 zZ7 (λr=>r) (λc=>K c.2.1 c.2.2.1 c.2.2.2.1 c.2.2.2.2) (bI (Lv K) k n (last,l,r.rest,r.err,r.made))=
 K (pL (N:Int) n last l r).1 (pL (N:Int) n last l r).2.rest (pL (N:Int) n last l r).2.err (pL (N:Int) n last l r).2.made:=by
 induction n with
 |zero=>intro k last l r au ah;rfl|succ n bb=>
  intro k last l r au ah;have aa:=zmP (N:=(N:Int)) (last:=last) (l:=l) ah
  have ae:(kp (N:Int) last l r).1.2.length=N:=by
   show(l.set _ _).length=N;rw[zVv,au]
  unfold bI pL;rw[zmQ K k last l ah,au];generalize kp (N:Int) last l r=y at aa ae⊢;obtain⟨⟨y1,ir⟩,rE⟩:=y;have hi:=bb (k+1) y1 ir rE ae aa
  cases af:(cl rE != 0)with
  |true=>rfl|false=>exact hi
theorem zmS{ρ:Type}(K:List bf->ByteArray->Int->Bool->ρ){s:aY}{r:Rd}{v:Rd × Int}(ah:b7 r.rest)(az:v=fD r 256):
 zZ7 (λr=>r) (λc=>K c.2.1 c.2.2.1 c.2.2.2.1 c.2.2.2.2) (bI (Lv K) 0 (zZ9 v.2) ((-1),s.bm,v.1.rest,v.1.err,v.1.made))=K (s0 s r).1.bm (s0 s r).2.rest (s0 s r).2.err (s0 s r).2.made:=by
 rw[s6 ah]at az;rw[az];exact zmR K s.bm.length _ 0 (-1) s.bm _ rfl (rD ah)
theorem zbm(m:Int):(((decide (m<0))||(decide (m>2047)))||(((a1 .and .i64 m (4:Int)) != 0)&&((a1 .and .i64 m (1024:Int)) != 0)))=na m:=by
 unfold na
 by_cases aP:m<0
 ·simp[aP]
 ·by_cases aa:m>2047
  ·simp[aa]
  ·obtain⟨e6,gl⟩:=Sm (m:=m) (by omega) (by omega)
   rw[e6,gl]
theorem GC{m:Int}(h:na m=false):0<=m/\m<=2047/\(et m 2&&et m 10)=false:=by
 unfold na at h;simp only[zUx,decide_eq_false_iff_not]at h;exact⟨by omega,by omega,h.2⟩
theorem UQ{x:aY}{d:ByteArray}(h:b7 d):wT x d=yz x (kC d):=by
 obtain⟨ft,y1,ir,rE,Ac,wa,s7,o0,nD,ln⟩:=x;unfold wT yz
 extract_lets+onlyGivenNames v2 v5
 have bc:v2=((bk (kC d)).2,(bk (kC d)).1):=gY h;have j0:v5=((bk (kC d)).2,cl (bk (kC d)).2):=by show en v2.1=_;rw[bc];exact ll _
 have ah:b7 (bk (kC d)).2.rest:=fk (r:=kC d) h
 clear_value v5 v2
 subst bc j0;generalize (bk (kC d)).2=r at ah⊢;generalize (bk (kC d)).1=m
 rcases zUw (cl r != 0)with he|he
 ·exact(s4 he).trans (s4 he).symm
 ·refine((s5 he).trans ?_).trans (s5 he).symm
  have hm:=zbm m
  rcases zUw (na m)with gx|gx
  ·rw[gx]at hm;exact(s4 hm).trans (s4 gx).symm
  ·rw[gx]at hm
   obtain⟨aP,aa,hx⟩:=GC gx;refine((s5 hm).trans ?_).trans ((zmL m _ r).trans (s5 gx).symm);refine(Sq (λ_ _=>rfl)).trans ?_;refine(Sq (λ_ _=>rfl)).trans ?_;refine(Sq (λ_ _=>rfl)).trans ?_;refine mB (λa=>b7 a.2.2.2.2.1) (λa=>(λv w=>gX m 9 1 ⟨v,y1,ir,rE,Ac,wa,s7,o0,nD,ln⟩ w) a.2.2.2.1 ⟨a.2.2.2.2.1,a.2.2.2.2.2.1,a.2.2.2.2.2.2⟩) ?_ (λF hF=>iE (mA aP aa (i:=0) (by decide)) ?_ ?_)
   rotate_left
   ·exact hS b8.int ah (G:=λv w=>gX m 9 1 ⟨v,y1,ir,rE,Ac,wa,s7,o0,nD,ln⟩ w) (λh=>hF _ h)
   ·exact hF _ ah
   rintro⟨_,_,_,f0,mz,hQ,A4⟩ g0
   refine mB (λa=>b7 a.2.2.2.2.1) (λa=>(λv w=>gX m 8 2 ⟨f0,v,ir,rE,Ac,wa,s7,o0,nD,ln⟩ w) a.2.2.2.1 ⟨a.2.2.2.2.1,a.2.2.2.2.2.1,a.2.2.2.2.2.2⟩) ?_ (λF hF=>iE (mA aP aa (i:=1) (by decide)) ?_ ?_)
   rotate_left
   ·exact hS b8.word g0 (G:=λv w=>gX m 8 2 ⟨f0,v,ir,rE,Ac,wa,s7,o0,nD,ln⟩ w) (λh=>hF _ h)
   ·exact hF _ g0
   rintro⟨_,_,_,f1,ji,aE,bA⟩ g1
   rcases zUw (et m 2)with xX|xX
   rotate_left
   ·refine(s5 ((mA aP aa (i:=2) (by decide)).trans xX)).trans (Eq.trans ?_ (s5 xX).symm)
    refine mB (λa=>b7 a.2.2.2.2.1) (λa=>(λv w=>gX m 6 4 ⟨f0,f1,ir,v,Ac,wa,s7,o0,nD,ln⟩ w) a.2.2.2.1 ⟨a.2.2.2.2.1,a.2.2.2.2.2.1,a.2.2.2.2.2.2⟩) ?_ (λF hF=>iE (mA aP aa (i:=3) (by decide)) ?_ ?_)
    rotate_left
    ·exact(v8 b8.word (λl a b c=>F (_,_,_,l,a,b,c)) g1 rfl).trans (hF _ (qC b8.word.eR g1))
    ·exact hF _ g1
    rintro⟨_,_,_,f3,zM,cJ,mI⟩ g3
    refine mB (λa=>b7 a.2.2.2.2.1) (λa=>(λv w=>gX m 5 5 ⟨f0,f1,ir,f3,v,wa,s7,o0,nD,ln⟩ w) a.2.2.2.1 ⟨a.2.2.2.2.1,a.2.2.2.2.2.1,a.2.2.2.2.2.2⟩) ?_ (λF hF=>iE (mA aP aa (i:=4) (by decide)) ?_ ?_)
    rotate_left
    ·exact(v8 b8.hs (λl a b c=>F (_,_,_,l,a,b,c)) g3 rfl).trans (hF _ (qC b8.hs.eR g3))
    ·exact hF _ g3
    rintro⟨_,_,_,f4,sP,ek,yy⟩ g4
    refine mB (λa=>b7 a.2.2.2.2.1) (λa=>(λv w=>gX m 4 6 ⟨f0,f1,ir,f3,f4,v,s7,o0,nD,ln⟩ w) a.2.2.2.1 ⟨a.2.2.2.2.1,a.2.2.2.2.2.1,a.2.2.2.2.2.2⟩) ?_ (λF hF=>iE (mA aP aa (i:=5) (by decide)) ?_ ?_)
    rotate_left
    ·exact(v8 b8.s8 (λl a b c=>F (_,_,_,l,a,b,c)) g4 rfl).trans (hF _ (qC b8.s8.eR g4))
    ·exact hF _ g4
    rintro⟨_,_,_,f5,kr,j0,St⟩ g5
    refine mB (λa=>b7 a.2.2.2.2.1) (λa=>(λv w=>gX m 3 7 ⟨f0,f1,ir,f3,f4,f5,v,o0,nD,ln⟩ w) a.2.2.2.1 ⟨a.2.2.2.2.1,a.2.2.2.2.2.1,a.2.2.2.2.2.2⟩) ?_ (λF hF=>iE (mA aP aa (i:=6) (by decide)) ?_ ?_)
    rotate_left
    ·exact hS b8.src g5 (G:=λv w=>gX m 3 7 ⟨f0,f1,ir,f3,f4,f5,v,o0,nD,ln⟩ w) (λh=>hF _ h)
    ·exact hF _ g5
    rintro⟨_,_,_,f6,Su,Sv,Sw⟩ g6
    refine mB (λa=>b7 a.2.2.2.2.1) (λa=>(λv w=>gX m 2 8 ⟨f0,f1,ir,f3,f4,f5,f6,v,nD,ln⟩ w) a.2.2.2.1 ⟨a.2.2.2.2.1,a.2.2.2.2.2.1,a.2.2.2.2.2.2⟩) ?_ (λF hF=>iE (mA aP aa (i:=7) (by decide)) ?_ ?_)
    rotate_left
    ·exact(v8 b8.s9 (λl a b c=>F (_,_,_,l,a,b,c)) g6 rfl).trans (hF _ (qC b8.s9.eR g6))
    ·exact hF _ g6
    rintro⟨_,_,_,f7,Sx,xY,Sy⟩ g7
    refine mB (λa=>b7 a.2.2.2.2.1) (λa=>(λv w=>gX m 1 9 ⟨f0,f1,ir,f3,f4,f5,f6,f7,v,ln⟩ w) a.2.2.2.1 ⟨a.2.2.2.2.1,a.2.2.2.2.2.1,a.2.2.2.2.2.2⟩) ?_ (λF hF=>iE (mA aP aa (i:=8) (by decide)) ?_ ?_)
    rotate_left
    ·exact hS b8.int g7 (G:=λv w=>gX m 1 9 ⟨f0,f1,ir,f3,f4,f5,f6,f7,v,ln⟩ w) (λh=>hF _ h)
    ·exact hF _ g7
    rintro⟨_,_,_,f8,Sz,GD,SA⟩ g8
    refine mB (λa=>b7 a.2.2.2.2.1) (λa=>(λv w=>gX m 0 10 ⟨f0,f1,ir,f3,f4,f5,f6,f7,f8,v⟩ w) a.2.2.2.1 ⟨a.2.2.2.2.1,a.2.2.2.2.2.1,a.2.2.2.2.2.2⟩) ?_ (λF hF=>iE (mA aP aa (i:=9) (by decide)) ?_ ?_)
    rotate_left
    ·exact hS b8.ints g8 (G:=λv w=>gX m 0 10 ⟨f0,f1,ir,f3,f4,f5,f6,f7,f8,v⟩ w) (λh=>hF _ h)
    ·exact hF _ g8
    rintro⟨_,_,_,f9,GF,ta,GG⟩ g9
    have Lx:=(Sm (m:=m) aP aa).2;refine mB (λ_=>True) (λa=>p1 ((⟨f0,f1,a.2.2.1,f3,f4,f5,f6,f7,f8,f9⟩:aY),(⟨a.2.2.2.1,a.2.2.2.2.1,a.2.2.2.2.2⟩:Rd))) (λa _=>zbl ⟨f0,f1,a.2.2.1,f3,f4,f5,f6,f7,f8,f9⟩ ⟨a.2.2.2.1,a.2.2.2.2.1,a.2.2.2.2.2⟩) (λF hF=>?_)
    rcases zUw (et m 10)with gO|gO
    ·refine((s4 (Lx.trans gO)).trans ?_).trans (zmM gO).symm
     exact(zmS (s:=⟨f0,f1,ir,f3,f4,f5,f6,f7,f8,f9⟩) (λl a b c=>F (a1 .and .i64 m (1024:Int),(a1 .and .i64 m (1024:Int)) != 0,l,a,b,c)) g9 rfl).trans (hF _ trivial)
    ·exact((s5 (Lx.trans gO)).trans (hF _ trivial)).trans (zbk gO).symm
   ·have SB:et m 10=false:=by rw[xX,zVf]at hx;exact hx
    refine(s4 ((mA aP aa (i:=2) (by decide)).trans xX)).trans (Eq.trans ?_ (s4 xX).symm)
    refine mB (λa=>b7 a.2.1) (λa=>gX m 7 3 ⟨f0,f1,a.1,rE,Ac,wa,s7,o0,nD,ln⟩ ⟨a.2.1,a.2.2.1,a.2.2.2⟩) ?_ (λF hF=>?_)
    rotate_left
    ·exact(v8 b8.ga (λl a b c=>F (l,a,b,c)) g1 rfl).trans (hF _ (qC b8.ga.eR g1))
    rintro⟨f2,mg,bc,ec⟩ g2
    refine mB (λa=>b7 a.2.2.2.2.2.1) (λa=>(λv w=>gX m 6 4 ⟨f0,f1,f2,v,Ac,wa,s7,o0,nD,ln⟩ w) a.2.2.2.2.1 ⟨a.2.2.2.2.2.1,a.2.2.2.2.2.2.1,a.2.2.2.2.2.2.2⟩) ?_ (λF hF=>iE (mA aP aa (i:=3) (by decide)) ?_ ?_)
    rotate_left
    ·exact(v8 b8.word (λl a b c=>F (_,_,_,3,l,a,b,c)) g2 rfl).trans (hF _ (qC b8.word.eR g2))
    ·exact hF _ g2
    rintro⟨_,_,_,_,f3,zM,cJ,mI⟩ g3
    refine mB (λa=>b7 a.2.2.2.2.2.1) (λa=>(λv w=>gX m 5 5 ⟨f0,f1,f2,f3,v,wa,s7,o0,nD,ln⟩ w) a.2.2.2.2.1 ⟨a.2.2.2.2.2.1,a.2.2.2.2.2.2.1,a.2.2.2.2.2.2.2⟩) ?_ (λF hF=>iE (mA aP aa (i:=4) (by decide)) ?_ ?_)
    rotate_left
    ·exact(v8 b8.hs (λl a b c=>F (_,_,_,4,l,a,b,c)) g3 rfl).trans (hF _ (qC b8.hs.eR g3))
    ·exact hF _ g3
    rintro⟨_,_,_,_,f4,sP,ek,yy⟩ g4
    refine mB (λa=>b7 a.2.2.2.2.2.1) (λa=>(λv w=>gX m 4 6 ⟨f0,f1,f2,f3,f4,v,s7,o0,nD,ln⟩ w) a.2.2.2.2.1 ⟨a.2.2.2.2.2.1,a.2.2.2.2.2.2.1,a.2.2.2.2.2.2.2⟩) ?_ (λF hF=>iE (mA aP aa (i:=5) (by decide)) ?_ ?_)
    rotate_left
    ·exact(v8 b8.s8 (λl a b c=>F (_,_,_,5,l,a,b,c)) g4 rfl).trans (hF _ (qC b8.s8.eR g4))
    ·exact hF _ g4
    rintro⟨_,_,_,_,f5,kr,j0,St⟩ g5
    refine mB (λa=>b7 a.2.2.2.2.2.1) (λa=>(λv w=>gX m 3 7 ⟨f0,f1,f2,f3,f4,f5,v,o0,nD,ln⟩ w) a.2.2.2.2.1 ⟨a.2.2.2.2.2.1,a.2.2.2.2.2.2.1,a.2.2.2.2.2.2.2⟩) ?_ (λF hF=>iE (mA aP aa (i:=6) (by decide)) ?_ ?_)
    rotate_left
    ·exact hS b8.src g5 (G:=λv w=>gX m 3 7 ⟨f0,f1,f2,f3,f4,f5,v,o0,nD,ln⟩ w) (λh=>hF _ h)
    ·exact hF _ g5
    rintro⟨_,_,_,_,f6,Su,Sv,Sw⟩ g6
    refine mB (λa=>b7 a.2.2.2.2.2.1) (λa=>(λv w=>gX m 2 8 ⟨f0,f1,f2,f3,f4,f5,f6,v,nD,ln⟩ w) a.2.2.2.2.1 ⟨a.2.2.2.2.2.1,a.2.2.2.2.2.2.1,a.2.2.2.2.2.2.2⟩) ?_ (λF hF=>iE (mA aP aa (i:=7) (by decide)) ?_ ?_)
    rotate_left
    ·exact(v8 b8.s9 (λl a b c=>F (_,_,_,7,l,a,b,c)) g6 rfl).trans (hF _ (qC b8.s9.eR g6))
    ·exact hF _ g6
    rintro⟨_,_,_,_,f7,Sx,xY,Sy⟩ g7
    refine mB (λa=>b7 a.2.2.2.2.2.1) (λa=>(λv w=>gX m 1 9 ⟨f0,f1,f2,f3,f4,f5,f6,f7,v,ln⟩ w) a.2.2.2.2.1 ⟨a.2.2.2.2.2.1,a.2.2.2.2.2.2.1,a.2.2.2.2.2.2.2⟩) ?_ (λF hF=>iE (mA aP aa (i:=8) (by decide)) ?_ ?_)
    rotate_left
    ·exact hS b8.int g7 (G:=λv w=>gX m 1 9 ⟨f0,f1,f2,f3,f4,f5,f6,f7,v,ln⟩ w) (λh=>hF _ h)
    ·exact hF _ g7
    rintro⟨_,_,_,_,f8,Sz,GD,SA⟩ g8
    refine mB (λa=>b7 a.2.2.2.2.2.1) (λa=>(λv w=>gX m 0 10 ⟨f0,f1,f2,f3,f4,f5,f6,f7,f8,v⟩ w) a.2.2.2.2.1 ⟨a.2.2.2.2.2.1,a.2.2.2.2.2.2.1,a.2.2.2.2.2.2.2⟩) ?_ (λF hF=>iE (mA aP aa (i:=9) (by decide)) ?_ ?_)
    rotate_left
    ·exact hS b8.ints g8 (G:=λv w=>gX m 0 10 ⟨f0,f1,f2,f3,f4,f5,f6,f7,f8,v⟩ w) (λh=>hF _ h)
    ·exact hF _ g8
    rintro⟨_,_,_,_,f9,GF,ta,GG⟩ g9
    refine(mB (λ_=>True) (λ_=>p1 ((⟨f0,f1,f2,f3,f4,f5,f6,f7,f8,f9⟩:aY),(⟨GF,ta,GG⟩:Rd))) (λ_ _=>zbl ⟨f0,f1,f2,f3,f4,f5,f6,f7,f8,f9⟩ ⟨GF,ta,GG⟩) (λF hF=>?_)).trans (zbk SB).symm;exact zmK (hF _ trivial) (hF _ trivial)
end Go.aH
namespace Go.aH
open Go Go.aH Go.eT
abbrev Ad:=Int × ByteArray × (List bf) × (List ByteArray) × (List b2) × (List de) × ByteArray × (List cG) × Int × (List Int) × ByteArray × Int × Int × Bool
def tc(s:aY)(q:bh):Ad:=(s.gz,s.mode,s.bm,s.ic,s.members,s.eW,s.source,s.eh,s.next,s.iH,q.s,q.at_,q.bad,q.made)
theorem zbn(i:Nat)(s:aY){q:bh}(h:cj q):cj (s3 (IntKind.wrap .u64) i s q).2:=by
 unfold s3
 split
 ·exact eS h
 ·exact jz (n:=60) h
 ·exact xZ dU.ga.eR h
 ·exact dU.texts.eR h
 ·exact xZ dU.hs.eR h
 ·exact xZ SC h
 ·exact jz (n:=20000) h
 ·exact xZ SD h
 ·exact eS h
 ·exact dU.ints.eR h
theorem CX{α ρ:Type}{R:bF->α × bF}(V:bh × α)(u:α->aY){q:bh}(oe:V=((R q).2,(R q).1)):
 (Step.bJ (tc (u V.2) V.1):Step ρ Ad)= .bJ (tc (bu R (λx=>cD (u x)) q).1 (bu R (λx=>cD (u x)) q).2):=by rw[oe];rfl
theorem Ly{α ρ:Type}{S:bF->α × bF}{f:bh->α × bh}(hf: ∀q,cj q->f q=S q)(hS: ∀{q:bh},cj q->cj (S q).2)(u:List α->aY){gQ:bh}(aP:cj gQ){v:bh × Int}(az:v=hy gQ 256):
 zZ7 (λr=>r) (λaT=>(Step.bJ (tc (u aT.2.1) ⟨aT.2.2.1,aT.2.2.2.1,aT.2.2.2.2.1,aT.2.2.2.2.2⟩):Step ρ Ad)) (dk (Ae v.2 f) c5 (0,[],v.1.s,v.1.at_,v.1.bad,v.1.made))=
 .bJ (tc (bu (mC 256 S) (λx=>cD (u x)) gQ).1 (bu (mC 256 S) (λx=>cD (u x)) gQ).2):=
 zmT hf hS (λl q=>(Step.bJ (tc (u l) q):Step ρ Ad)) aP az
theorem SE{ρ:Type}{T:Nat->Bool}{b:Nat->Ad->Step ρ Ad}(af: ∀(i:Nat) (s:aY) (q:bh),i<10->cj q->b i (tc s q)=bif(bQ q==0)&&T i then .bJ (tc (s3 (IntKind.wrap .u64) i s q).1 (s3 (IntKind.wrap .u64) i s q).2)else .bJ (tc s q)):
 ∀(n k:Nat) (s:aY) (q:bh),k+n<=10->cj q->bI b k n (tc s q)= .inr (tc (iv (IntKind.wrap .u64) T n k s q).1 (iv (IntKind.wrap .u64) T n k s q).2)
 |0,_,_,_,_,_=>rfl|n+1,k,s,q,an,aB=>by
  unfold bI iv;rw[af k s q (by omega) aB]
  cases (bQ q==0)&&T k with
  |true=>exact SE af n (k+1) _ _ (by omega) (zbn k s aB)|false=>exact SE af n (k+1) _ _ (by omega) aB
theorem SF{c:Nat->Bool}: ∀(n k:Nat) (s:aY) {q:bh},cj q->cj (iv (IntKind.wrap .u64) c n k s q).2
 |0,_,_,_,h=>h|n+1,k,s,q,h=>by
  unfold iv
  cases (bQ q==0)&&c k with
  |true=>exact SF n (k+1) _ (zbn k s h)|false=>exact SF n (k+1) s h
theorem SG{c:Int->Int}{p ha:Nat->Bool}: ∀(n k:Nat) (s:aY) (q:bh),(∀i,i<k+n->p i=ha i)->iv c p n k s q=iv c ha n k s q
 |0,_,_,_,_=>rfl|n+1,k,s,q,h=>by
  unfold iv;rw[h k (by omega),SG n (k+1) _ _ (λi hi=>h i (by omega)),SG n (k+1) s q (λi hi=>h i (by omega))]
theorem zmU{c:Bool}{q:bh}(h:cj q):cj (vZ c q).2:=by
 unfold vZ
 cases (bQ q==0)&&c with
 |true=>exact CY h|false=>exact h
theorem zbo(N last:Int)(l:List bf)(q:bh):nB N last l q=(((bL q).1,l.set (bL q).1.toNat (nC (vZ (uC N last (bL q).1) (bL q).2).2).1),(nC (vZ (uC N last (bL q).1) (bL q).2).2).2):=rfl
theorem zmV{N last:Int}{l:List bf}{q:bh}(h:cj q):cj (nB N last l q).2:=by
 rw[zbo];exact dU.ga.eR (zmU (eS h))
abbrev rF:=Int × Int × (List bf) × ByteArray × Int × Int × Bool
noncomputable def Lz{ρ:Type}(n N:Int)(bz:rF):Step ρ rF:=
     let gB:=decide (bz.2.1<n)
     let aQ:Int->ByteArray->Int->Int->Bool->Step ρ rF:=λeu v49 fO v51 fP=>
      bif(gB&&(eu==0))then
       let bG:Int->(List bf)->ByteArray->Int->Int->Bool->Step ρ rF:=λcC vb nf hD v85 jm=>
        .bJ (cC,(IntKind.wrap .i64 (bz.2.1+(1:Int))),vb,nf,hD,v85,jm)
       let cC:=dJ ⟨v49,fO,v51,fP⟩
       let aQ:ByteArray->Int->Int->Bool->Step ρ rF:=λgd fm hv gf=>
        let ih:=pk ⟨gd,fm,hv,gf⟩
        let eA:=dz ih.1
        bif(eA.2==0)then
         bG cC.2 (zYy bz.2.2.1 (zZ9 cC.2) ih.2) eA.1.s eA.1.at_ eA.1.bad eA.1.made
        else
         bG bz.1 bz.2.2.1 eA.1.s eA.1.at_ eA.1.bad eA.1.made
       let eZ:=dz cC.1
       bif((eZ.2==0)&&((decide (cC.2<=bz.1))||(decide (cC.2>=N))))then
        let hV:=tH eZ.1 (4:Int)
        aQ hV.s hV.at_ hV.bad hV.made
       else
        aQ eZ.1.s eZ.1.at_ eZ.1.bad eZ.1.made
      else
       .c4 (bz.1,bz.2.1,bz.2.2.1,v49,fO,v51,fP)
     bif gB then
      let eu:=dz ⟨bz.2.2.2.1,bz.2.2.2.2.1,bz.2.2.2.2.2.1,bz.2.2.2.2.2.2⟩
      aQ eu.2 eu.1.s eu.1.at_ eu.1.bad eu.1.made
     else
      aQ (0:Int) bz.2.2.2.1 bz.2.2.2.2.1 bz.2.2.2.2.2.1 bz.2.2.2.2.2.2
def x1(last k:Int)(l:List bf)(q:bh):rF:=(last,k,l,q.s,q.at_,q.bad,q.made)
theorem zbp{ρ:Type}(n N last k:Int)(l:List bf){q:bh}(aB:cj q):(Lz n N (x1 last k l q):Step ρ rF)=
 bif(decide (k<n)&&(bQ q==0))then(bif bQ (nB N last l q).2==0 then .bJ (x1 (nB N last l q).1.1 (IntKind.wrap .i64 (k+1)) (nB N last l q).1.2 (nB N last l q).2)else .bJ (x1 last (IntKind.wrap .i64 (k+1)) l (nB N last l q).2))else .c4 (x1 last k l q):=by
 have hQ:dz ⟨q.s,q.at_,q.bad,q.made⟩=(q,bQ q):=jS q;have aE:dJ ⟨q.s,q.at_,q.bad,q.made⟩=((bL q).2,(bL q).1):=fU aB;have aa:=eS aB;rw[zbo];unfold Lz x1;simp only[hQ]
 cases decide (k<n)with
 |false=>rfl|true=>
  simp only[cond_true,zVf]
  cases (bQ q==0)with
  |false=>rfl|true=>
   simp only[cond_true,aE,jS,GH];unfold vZ uC
   cases hc:(bQ (bL q).2==0)&&(decide ((bL q).1<=last)||decide ((bL q).1>=N))with
   |true=>
    have bc:pk ⟨(kS (bL q).2 4).s,(kS (bL q).2 4).at_,(kS (bL q).2 4).bad,(kS (bL q).2 4).made⟩=((nC (kS (bL q).2 4)).2,(nC (kS (bL q).2 4)).1):=dU.ga.eq (q:=kS (bL q).2 4) (CY aa);simp only[cond_true,bc]
   |false=>
    have bc:pk ⟨(bL q).2.s,(bL q).2.at_,(bL q).2.bad,(bL q).2.made⟩=((nC (bL q).2).2,(nC (bL q).2).1):=dU.ga.eq (q:=(bL q).2) aa;simp only[cond_false,bc]
theorem zmW{ρ:Type}(N:Int)(n:Nat)(hn:n<=256)(m:Nat): ∀(k F:Nat) (last:Int) (l:List bf) (q:bh),cj q->k+m=n->m<F->
 ∃SH bl,(dk (Lz n N) F (x1 last k l q):ρ⊕rF)= .inr (x1 SH bl (rC N m last l q).1 (rC N m last l q).2):=by
 induction m with
 |zero=>
  intro k F last l q aB an hF;obtain⟨F,rfl⟩: ∃G,F=G+1:=⟨F-1,by omega⟩
  refine⟨last,k,?_⟩;unfold dk;rw[zbp _ _ _ _ _ aB,show decide ((k:Int)<(n:Int))=false from decide_eq_false (by omega)]
  rfl
 |succ m bb=>
  intro k F last l q aB an hF;obtain⟨F,rfl⟩: ∃G,F=G+1:=⟨F-1,by omega⟩
  have aa:=zmV (N:=N) (last:=last) (l:=l) aB;unfold dk rC;rw[zbp _ _ _ _ _ aB,show decide ((k:Int)<(n:Int))=true from decide_eq_true (by omega),zVf]
  rw[show IntKind.wrap .i64 ((k:Int)+1)=((k+1:Nat):Int)by rw[iz _ (by omega) (by omega)];omega]
  generalize nB N last l q=y at aa⊢;obtain⟨⟨y1,ir⟩,rE⟩:=y;have i1:=bb (k+1) F y1 ir rE aa (by omega) (by omega)
  have i2:=bb (k+1) F last l rE aa (by omega) (by omega)
  cases af:(bQ q==0)with
  |false=>exact⟨last,k,rfl⟩|true=>
   cases hc:(bQ rE==0)with
   |true=>exact i1|false=>exact i2
theorem zmX{ρ:Type}(s:aY){q:bh}(aB:cj q){v:bh × Int}(az:v=hy q 256):
 ∃SH bl,(dk (Lz v.2 (s.bm.length:Int)) c5 ((-1),0,zYz [] s.bm,v.1.s,v.1.at_,v.1.bad,v.1.made):ρ⊕rF)= .inr (x1 SH bl (v7 s q).1.bm (v7 s q).2):=by
 rw[wb aB]at az;rw[az];obtain⟨aO,bz⟩:=CZ q;have h:=zmW (ρ:=ρ) (s.bm.length:Int) (cW q 256).1.toNat bz (cW q 256).1.toNat 0 c5 (-1) s.bm (cW q 256).2 (rG (n:=256) aB) (Nat.zero_add _) (by unfold c5;omega)
 rw[aO]at h;exact h
noncomputable def SI(q:bh):de × bh:=
 let gJ:=gT q (60:Int)
 let eu:=dJ gJ.1
 let v51:=dJ eu.1
 (⟨gJ.2,⟨eu.2,(IntKind.wrap .u64 v51.2)⟩⟩,v51.1)
theorem zmY(q:bh)(aB:cj q):SI q=GI (IntKind.wrap .u64) q:=by
 have g1:=jz (n:=60) aB;have g2:=eS g1;unfold SI;simp only[mD aB,fU g1,fU g2];rfl
noncomputable def SJ(q:bh):cG × bh:=
 let eY:=gT q (60:Int)
 let fw:=sa eY.1
 (⟨eY.2,fw.2⟩,fw.1)
theorem zmZ(q:bh)(aB:cj q):SJ q=GJ q:=by
 have g1:=jz (n:=60) aB;unfold SJ;simp only[mD aB,dU.items.eq g1];rfl
theorem zm0(m:Int):(((decide (m<0))||(decide (m>2047)))||(((a1 .rem .i64 (a1 .shr .i64 m (2:Int)) (2:Int))==1)&&((a1 .rem .i64 (a1 .shr .i64 m (10:Int)) (2:Int))==1)))=na m:=by
 unfold na
 by_cases aP:m<0
 ·simp[aP]
 ·by_cases aa:m>2047
  ·simp[aa]
  ·have e6:=Ls (m:=m) (by omega) (by omega) (i:=2) (by decide)
   have gl:=Ls (m:=m) (by omega) (by omega) (i:=10) (by decide)
   have e6:(a1 .rem .i64 (a1 .shr .i64 m (2:Int)) (2:Int)==1)=et m 2:=e6;have gl:(a1 .rem .i64 (a1 .shr .i64 m (10:Int)) (2:Int)==1)=et m 10:=gl;rw[e6,gl]
theorem zbq{s:aY}{q:bh}(h:bQ q≠0):pM (s,q)=(dD,bQ q):=by
 have:pN q=bQ q:=by
  unfold pN;rw[show(bQ q != 0)=true by simpa using h];rfl
 unfold pM;rw[if_neg (by rw[this];exact h),this]
theorem zbr{a:aY}{m:Int}{q:bh}(h:bQ q≠0):CW a m q=(a,q):=by
 unfold CW;rw[Ab h];have:(bQ q==0)=false:=by simpa using h
 simp only[this,zV7,cond_false]
theorem zbs{q:bh}(h:bQ q=0):bQ (kS q 4)=4:=by
 have hm:q.made=true:=(zm1 h).1;unfold kS;rw[h];unfold bQ;simp[hm]
theorem zfi{x:aY}{d:ByteArray}(h:b7 d):A6 x d=Lr x (kT d):=by
 have aP:cj (kT d):=zbt h;have aa:cj (bL (kT d)).2:=eS aP;unfold A6 Lr
 extract_lets -underBinder+onlyGivenNames v2 aQ v5 v20
 have bc:v2=((bL (kT d)).2,(bL (kT d)).1):=fU aP
 have key: ∀q,cj q->(bQ q=0->na (bL (kT d)).1=false)->aQ q.s q.at_ q.bad q.made=pM (CW x (bL (kT d)).1 q):=by
  intro q aB hm;have zm2:v2.2=(bL (kT d)).1:=by rw[bc]
  unfold aQ;rw[zm2];generalize (bL (kT d)).1=m at hm;refine Eq.trans (congrArg (zZ7 _ _) (SE (T:=λi=>a1 .rem .i64 (a1 .shr .i64 m (i:Int)) (2:Int)==1) (λi s q hi aB=>?_) 10 0 x q (by decide) aB)) ?_
  ·have o1:dz ⟨q.s,q.at_,q.bad,q.made⟩=(q,bQ q):=jS q
   rcases zUw ((bQ q==0)&&(a1 .rem .i64 (a1 .shr .i64 m (i:Int)) (2:Int)==1))with hc|hc
   ·have qc:(((dz ⟨q.s,q.at_,q.bad,q.made⟩).2==0)&&(a1 .rem .i64 (a1 .shr .i64 m (i:Int)) (2:Int)==1))=true:=by rw[o1];exact hc
    refine((s4 qc).trans ?_).trans (s4 hc).symm;have LA:hy (dz ⟨q.s,q.at_,q.bad,q.made⟩).1 256=hy q 256:=by rw[o1]
    match i,hi with
    |0,_=>exact CX (R:=bL) (dJ (dz ⟨q.s,q.at_,q.bad,q.made⟩).1) (λx=>{s with gz:=x}) (by rw[o1];exact fU aB)
    |1,_=>exact CX (R:=kt) (gT (dz ⟨q.s,q.at_,q.bad,q.made⟩).1 60) (λx=>{s with mode:=x}) (by rw[o1];exact mD aB)
    |2,_=>exact Ly (S:=nC) (f:=λq=>((pk q).2,(pk q).1)) (λq aB=>by rw[dU.ga.eq aB]) dU.ga.eR (λl=>{s with bm:=l}) aB LA
    |3,_=>exact CX (R:=Af) (qX (dz ⟨q.s,q.at_,q.bad,q.made⟩).1) (λx=>{s with ic:=x}) (by rw[o1];exact dU.texts.eq aB)
    |4,_=>exact Ly (S:=LB) (f:=λq=>((w0 q).2,(w0 q).1)) (λq aB=>by rw[dU.hs.eq aB]) dU.hs.eR (λl=>{s with members:=l}) aB LA
    |5,_=>exact Ly (S:=GI (IntKind.wrap .u64)) (f:=SI) zmY SC (λl=>{s with eW:=l}) aB LA
    |6,_=>exact CX (R:=λq=>lp q 20000) (gT (dz ⟨q.s,q.at_,q.bad,q.made⟩).1 20000) (λx=>{s with source:=x}) (by rw[o1];exact mD aB)
    |7,_=>exact Ly (S:=GJ) (f:=SJ) zmZ SD (λl=>{s with eh:=l}) aB LA
    |8,_=>exact CX (R:=bL) (dJ (dz ⟨q.s,q.at_,q.bad,q.made⟩).1) (λx=>{s with next:=x}) (by rw[o1];exact fU aB)
    |9,_=>exact CX (R:=x2 256) (w1 (dz ⟨q.s,q.at_,q.bad,q.made⟩).1 256) (λx=>{s with iH:=x}) (by rw[o1];exact dU.ints.eq aB)
   ·have qc:(((dz ⟨q.s,q.at_,q.bad,q.made⟩).2==0)&&(a1 .rem .i64 (a1 .shr .i64 m (i:Int)) (2:Int)==1))=false:=by rw[o1];exact hc
    refine((s5 qc).trans ?_).trans (s5 hc).symm;show(Step.bJ (tc s (dz ⟨q.s,q.at_,q.bad,q.made⟩).1):Step (aY × Int) Ad)=_;rw[o1]
  ·have dt:iv (IntKind.wrap .u64) (λi=>a1 .rem .i64 (a1 .shr .i64 m (i:Int)) (2:Int)==1) 10 0 x q=iv (IntKind.wrap .u64) (et m) 10 0 x q:=by
    by_cases he:bQ q=0
    ·obtain⟨g0,g1,_⟩:=GC (hm he)
     exact SG 10 0 x q λi hi=>Ls g0 g1 (by omega)
    ·rw[Ab he,Ab he]
   rw[dt];have an:=SF (c:=et m) 10 0 x aB
   have CN:na m=false->et m 10=true->(iv (IntKind.wrap .u64) (et m) 10 0 x q).1.bm=x.bm:=λaf Lx=>by
    have:=(GC af).2.2;rw[Lx,Bool.and_true]at this;exact Sl this 10 0 x q
   have GK:((bQ (iv (IntKind.wrap .u64) (et m) 10 0 x q).2==0)&&((a1 .rem .i64 (a1 .shr .i64 m (10:Int)) (2:Int))==1))=((bQ (iv (IntKind.wrap .u64) (et m) 10 0 x q).2==0)&&et m 10):=by
    by_cases he:bQ q=0
    ·obtain⟨g0,g1,_⟩:=GC (hm he)
     rw[show(a1 .rem .i64 (a1 .shr .i64 m (10:Int)) (2:Int)==1)=et m 10 from Ls g0 g1 (i:=10) (by decide)]
    ·rw[Ab he]
     have:(bQ q==0)=false:=by simpa using he
     show((bQ q==0)&&_)=((bQ q==0)&&_);rw[this];rfl
   have zbu:bQ (iv (IntKind.wrap .u64) (et m) 10 0 x q).2=0->na m=false:=λhe=>by
    by_cases h:bQ q=0
    ·exact hm h
    ·rw[Ab h]at he;exact absurd he h
   have hu:CW x m q=bif((bQ (iv (IntKind.wrap .u64) (et m) 10 0 x q).2==0)&&et m 10)then v7 (iv (IntKind.wrap .u64) (et m) 10 0 x q).1 (iv (IntKind.wrap .u64) (et m) 10 0 x q).2 else iv (IntKind.wrap .u64) (et m) 10 0 x q:=rfl
   rw[hu];generalize iv (IntKind.wrap .u64) (et m) 10 0 x q=y at an CN GK zbu⊢;obtain⟨s,w⟩:=y;have o1:dz ⟨w.s,w.at_,w.bad,w.made⟩=(w,bQ w):=jS w;have CN:na m=false->et m 10=true->s.bm=x.bm:=CN;have GK:((bQ w==0)&&((a1 .rem .i64 (a1 .shr .i64 m (10:Int)) (2:Int))==1))=((bQ w==0)&&et m 10):=GK;have an:cj w:=an
   rcases zUw ((bQ w==0)&&et m 10)with hc|hc
   ·have qc:(((dz ⟨w.s,w.at_,w.bad,w.made⟩).2==0)&&(a1 .rem .i64 (a1 .shr .i64 m (10:Int)) (2:Int)==1))=true:=by rw[o1];exact GK.trans hc
    refine((s4 qc).trans ?_).trans (congrArg pM (s4 hc).symm);rw[zZr]at hc;have ao:=CN (zbu (by simpa using hc.1)) hc.2
    obtain⟨dF,bl,au⟩:=zmX (ρ:=aY × Int) s an (v:=hy (dz ⟨w.s,w.at_,w.bad,w.made⟩).1 256) (by rw[o1])
    rw[ao]at au;refine(congrArg (zZ7 _ _) au).trans ?_;exact zbv (s:=(v7 s w).1) (q:=(v7 s w).2) rfl
   ·have qc:(((dz ⟨w.s,w.at_,w.bad,w.made⟩).2==0)&&(a1 .rem .i64 (a1 .shr .i64 m (10:Int)) (2:Int)==1))=false:=by rw[o1];exact GK.trans hc
    refine((s5 qc).trans ?_).trans (congrArg pM (s5 hc).symm);exact zbv (s:=s) (q:=w) (v:=tI (dz ⟨w.s,w.at_,w.bad,w.made⟩).1) (by rw[o1])
 have j0:v5=((bL (kT d)).2,bQ (bL (kT d)).2):=by show dz v2.1=_;rw[bc];exact jS _
 have zm3:v20=((bQ (bL (kT d)).2==0)&&na (bL (kT d)).1):=by
  show((v5.2==0)&&_)=_;rw[j0,bc,<-zm0]
 rw[zm3,j0];generalize (bL (kT d)).2=q at aa key⊢;generalize (bL (kT d)).1=m at key⊢
 by_cases he:bQ q=0
 ·have oa:(bQ q==0)=true:=by simpa using he
  have e6:(bQ q != 0)=false:=by simpa using he
  rw[oa,e6,zVf]
  rcases zUw (na m)with af|af
  ·rw[af]
   have hf:=zbs he;have an:=key (kS q 4) (CY aa) (λh=>by rw[hf]at h;cases h)
   rw[zbr (by rw[hf];decide),zbq (by rw[hf];decide),hf]at an
   simp only[GH];exact an
  ·rw[af]
   refine(key q aa (λ_=>af)).trans ?_;exact zmG x m q
 ·have oa:(bQ q==0)=false:=by simpa using he
  have e6:(bQ q != 0)=true:=by simpa using he
  rw[oa,e6,zV7];refine(key q aa (λh=>absurd h he)).trans ?_;rw[zbr he,zbq he];rfl
end Go.aH
namespace Go.aH
open Go Go.aH Go.eT
theorem m1{A:Type}{F:A->Prop}{b:(A->Prop)->Prop}(P:A->Prop)(h: ∀a,P a->F a)(af: ∀F:A->Prop,(∀a,P a->F a)->b F):eo F b:=af F h
theorem x3{α:Type}{R:Rd->α × Rd}{lU:Rd->Rd × α}{p:Rd->Prop}(h:b8 R lU p){r:Rd}(ah:b7 r.rest){c:Bool}{A B:Prop}(ej:b7 (lU r).1.rest->A)(gO:B):(c=true->p r/\A)/\(c=false->B):=
 ⟨λ_=>⟨h.ok ah,ej (by rw[h.eq ah];exact h.eR ah)⟩,λ_=>gO⟩
theorem zm4(r:Rd):cl (lj r 4)≠0:=by
 intro h;unfold lj at h
 cases he:(cl r==0)with
 |true=>
  rw[he]at h;unfold cl at h he
  cases hm:r.made with
  |true=>simp[hm]at h|false=>simp[hm]at h
 |false=>
  rw[he]at h;have:cl r=0:=h;simp[this]at he
theorem zm5{l:List bf}{r:Rd}{v:Rd × Int}(ah:b7 r.rest)(az:v=fD r 256):
 (k0 r 256)/\(0<=v.2/\v.2<(9223372036854775808:Int))/\
 ∃I:Nat->(Int × (List bf) × ByteArray × Int × Bool)->Prop,I 0 ((-1),l,v.1.rest,v.1.err,v.1.made)/\∀(i:Nat) (d:Int × (List bf) × ByteArray × Int × Bool),i<zZ9 v.2->I i d->(
  let ie:=ei ⟨d.2.2.1,d.2.2.2.1,d.2.2.2.2⟩
  (iJ ⟨d.2.2.1,d.2.2.2.1,d.2.2.2.2⟩)/\
  eo (λ(a:Int × Bool × Bool × Bool × ByteArray × Int × Bool)=>
   let wY:=qR ⟨a.2.2.2.2.1,a.2.2.2.2.2.1,a.2.2.2.2.2.2⟩
   (yF ⟨a.2.2.2.2.1,a.2.2.2.2.2.1,a.2.2.2.2.2.2⟩)/\
   let nc:=en wY.1
   ((nc.2 != 0)=false->(
    (0<=ie.2/\ie.2<(zZ5 d.2.1:Int))/\
    (0<=ie.2/\ie.2<(zZ5 d.2.1:Int))/\
    I (i+1) (ie.2,(zYy d.2.1 (zZ9 ie.2) wY.2),nc.1.rest,nc.1.err,nc.1.made))))
  λaQ=>
  let v105:=en ie.1
  let nd:=v105.2==0
  let p6:Bool:=nd&&((decide (ie.2<=d.1))||(decide (ie.2>=(zZ5 d.2.1:Int))))
  (p6=true->(
   let r8:=wV v105.1 (4:Int)
   aQ (v105.2,nd,nd,p6,r8.rest,r8.err,r8.made)))/\(p6=false->(
   aQ (v105.2,nd,nd,p6,v105.1.rest,v105.1.err,v105.1.made)))):=by
 have ta:=s6 (n:=256) ah;rw[ta]at az;obtain⟨aO,bz,bd⟩:=GL (r:=r);rw[az];refine⟨GM ah,⟨bz,bd⟩,λ_ d=> -1<=d.1/\b7 d.2.2.1,⟨zW1 _,rD ah⟩,λi d _ ⟨g1,g2⟩=>?_⟩;obtain⟨last,l,a,b,c⟩:=d;have g1: -1<=last:=g1;have h:b7 (⟨a,b,c⟩:Rd).rest:=g2;dsimp only;generalize (⟨a,b,c⟩:Rd)=q at h⊢;have aE:=gY h;have eG:=fk h;have ok:=j7 h;simp only[aE,ll,Ss];generalize (bk q).2=dp at eG⊢;generalize (bk q).1=k;refine⟨ok,m1 (λa=>b7 a.2.2.2.2.1/\(cl ⟨a.2.2.2.2.1,a.2.2.2.2.2.1,a.2.2.2.2.2.2⟩=0->last<k/\k<(l.length:Int))) (λa ⟨aa,ae⟩=>?_) (λF hF=>⟨λhc=>?_,λhc=>?_⟩)⟩
 ·have bc:=b8.ga.eq (r:=⟨a.2.2.2.2.1,a.2.2.2.2.2.1,a.2.2.2.2.2.2⟩) aa
  have eO:=Sr (r:=⟨a.2.2.2.2.1,a.2.2.2.2.2.1,a.2.2.2.2.2.2⟩) aa;have ks:=dT.ga.z7 ⟨a.2.2.2.2.1,a.2.2.2.2.2.1,a.2.2.2.2.2.2⟩;refine⟨b8.ga.ok (r:=⟨a.2.2.2.2.1,a.2.2.2.2.2.1,a.2.2.2.2.2.2⟩) aa,?_⟩;generalize (⟨a.2.2.2.2.1,a.2.2.2.2.2.1,a.2.2.2.2.2.2⟩:Rd)=w at ae bc eO ks⊢;rw[bc];intro he;have he:cl (m0 w).2=0:=by simpa using he
  have hw:cl w=0:=by
   by_cases hw:cl w=0
   ·exact hw
   ·rw[ks hw]at he;exact he
  obtain⟨e6,gl⟩:=ae hw;exact⟨⟨by omega,gl⟩,⟨by omega,gl⟩,by show -1<=k;omega,eO⟩
 ·refine hF _ ⟨?_,λhe=>?_⟩
  ·exact Lu eG
  ·exact absurd he (zm4 dp)
 ·refine hF _ ⟨?_,λhe=>?_⟩
  ·exact eG
  ·have he:cl dp=0:=he
   rw[he]at hc;simp only[beq_self_eq_true,zVf,zUx,decide_eq_false_iff_not]at hc;omega
theorem rH{n k b:Nat}(hn:n<=1000)(an:k<=1000)(af:b<=1000):n+k<=maxLen/\(n+k)*b<=140737488355328:=by
 have:(n+k)*b<=2000*1000:=Nat.mul_le_mul (by omega) af
 exact⟨by simp only[maxLen];omega,by omega⟩
theorem zfj{x:aY}{d:ByteArray}(hS:oZ x)(h:b7 d):DV x d:=by
 obtain⟨_,s1,s2,jc,jI,jv,kO⟩:=hS;have ib:=s1.1;have hq:=s2.1;have nM:=jc.1;have Kr:=jI.1;have zpf:=jv.1;have zpg:=kO.1;unfold DV;intro v2;refine⟨j7 (r:=kC d) h,?_⟩;intro v5;have bc:v2=((bk (kC d)).2,(bk (kC d)).1):=gY h;have j0:v5=((bk (kC d)).2,cl (bk (kC d)).2):=by show en v2.1=_;rw[bc];exact ll _
 have ah:b7 (bk (kC d)).2.rest:=fk (r:=kC d) h
 clear_value v5 v2
 subst bc j0;generalize (bk (kC d)).2=r at ah⊢;generalize (bk (kC d)).1=m;intro _ hm;obtain⟨aP,aa,hx⟩:=GC ((zbm m).symm.trans hm);intro cK aX;refine⟨λi c=>c.length=i,rfl,λi c hi hc=>?_,λaT _=>?_⟩
 ·have hi:i<x.bm.length:=by have hi:i<zZ9 (x.bm.length:Int):=hi;rwa[zW8]at hi
  have hc:c.length=i:=hc;have ao:=s1.2 _ (nA (d:=aZ .bf) hi);obtain⟨_,⟨⟨e6,_⟩,⟨gl,_⟩⟩,_⟩:=ao;dsimp only;rw[zW8];refine⟨rH (zXx _) (by omega) (by decide),rH (zXx _) (by omega) (by decide),rH (by omega) (by show 1<=1000;decide) (by decide),?_⟩
  show(c++[_]).length=i+1;rw[zVu,hc];rfl
 unfold aX;intro v20 eG;refine⟨λi c=>c.length=i,rfl,λi c hi hc=>?_,λaO _=>?_⟩
 ·have hi:i<x.members.length:=by have hi:i<zZ9 (x.members.length:Int):=hi;rwa[zW8]at hi
  have hc:c.length=i:=hc;have ao:=jc.2 _ (nA (d:=aZ .b2) hi);obtain⟨_,_,⟨e6,_⟩,gl,_⟩:=ao;dsimp only;rw[zW8];refine⟨rH (zXx _) (by omega) (by decide),rH (zXx _) (by omega) (by decide),rH (by omega) (by show 1<=1000;decide) (by decide),?_⟩
  show(c++[_]).length=i+1;rw[zVu,hc];rfl
 unfold eG;intro v22 eO;refine⟨λi c=>c.length=i,rfl,λi c hi hc=>?_,λbz _=>?_⟩
 ·have hi:i<x.eh.length:=by have hi:i<zZ9 (x.eh.length:Int):=hi;rwa[zW8]at hi
  have hc:c.length=i:=hc;have ao:=jv.2 _ (nA (d:=aZ .cG) hi);obtain⟨_,e6,_⟩:=ao;dsimp only;rw[zW8];refine⟨rH (zXx _) (by omega) (by decide),rH (by omega) (by show 1<=1000;decide) (by decide),?_⟩
  show(c++[_]).length=i+1;rw[zVu,hc];rfl
 unfold eO;refine⟨rH (zXx _) (by omega) (by decide),rH (zXx _) (by omega) (by decide),rH (zXx _) (by omega) (by decide),?_⟩
 refine m1 (λa=>b7 a.2.2.2.2.1) ?_ (λF hF=>x3 b8.int ah (λh=>hF _ h) (hF _ ah))
 rintro⟨_,_,_,_,mz,hQ,A4⟩ g0
 refine m1 (λa=>b7 a.2.2.2.2.1) ?_ (λF hF=>x3 b8.word g0 (λh=>hF _ h) (hF _ g0))
 rintro⟨_,_,_,_,ji,aE,bA⟩ g1
 refine⟨λhc=>?_,λ_=>?_⟩
 rotate_left
 ·skip
  refine m1 (λa=>b7 a.2.2.2.2.1) ?_ (λF hF=>⟨λ_=>qD b8.word (λl a b c=>F (_,_,_,l,a,b,c)) 16 (by decide) g1 rfl (λl q aB=>hF _ aB),λ_=>hF _ g1⟩)
  rintro⟨_,_,_,_,zM,cJ,mI⟩ g3
  refine m1 (λa=>b7 a.2.2.2.2.1) ?_ (λF hF=>⟨λ_=>qD b8.hs (λl a b c=>F (_,_,_,l,a,b,c)) 80 (by decide) g3 rfl (λl q aB=>hF _ aB),λ_=>hF _ g3⟩)
  rintro⟨_,_,_,_,sP,ek,yy⟩ g4
  refine m1 (λa=>b7 a.2.2.2.2.1) ?_ (λF hF=>⟨λ_=>qD b8.s8 (λl a b c=>F (_,_,_,l,a,b,c)) 32 (by decide) g4 rfl (λl q aB=>hF _ aB),λ_=>hF _ g4⟩)
  rintro⟨_,_,_,_,kr,j0,St⟩ g5
  refine m1 (λa=>b7 a.2.2.2.2.1) ?_ (λF hF=>x3 b8.src g5 (λh=>hF _ h) (hF _ g5))
  rintro⟨_,_,_,_,Su,Sv,Sw⟩ g6
  refine m1 (λa=>b7 a.2.2.2.2.1) ?_ (λF hF=>⟨λ_=>qD b8.s9 (λl a b c=>F (_,_,_,l,a,b,c)) 40 (by decide) g6 rfl (λl q aB=>hF _ aB),λ_=>hF _ g6⟩)
  rintro⟨_,_,_,_,Sx,xY,Sy⟩ g7
  refine m1 (λa=>b7 a.2.2.2.2.1) ?_ (λF hF=>x3 b8.int g7 (λh=>hF _ h) (hF _ g7))
  rintro⟨_,_,_,_,Sz,GD,SA⟩ g8
  refine m1 (λa=>b7 a.2.2.2.2.1) ?_ (λF hF=>x3 b8.ints g8 (λh=>hF _ h) (hF _ g8))
  rintro⟨_,_,_,_,GF,ta,GG⟩ g9
  exact λ_=>zm5 (l:=aT) g9 rfl
 ·have xX:et m 2=true:=(mA aP aa (i:=2) (by decide)).symm.trans hc
  have SB:et m 10=false:=by rw[xX,zVf]at hx;exact hx
  refine m1 (λa=>b7 a.2.1) ?_ (λF hF=>qD b8.ga (λl a b c=>F (l,a,b,c)) 104 (by decide) g1 rfl (λl q aB=>hF _ aB))
  rintro⟨_,mg,bc,ec⟩ g2
  refine m1 (λa=>b7 a.2.2.2.2.2.1) ?_ (λF hF=>⟨λ_=>qD b8.word (λl a b c=>F (_,_,_,3,l,a,b,c)) 16 (by decide) g2 rfl (λl q aB=>hF _ aB),λ_=>hF _ g2⟩)
  rintro⟨_,_,_,_,_,zM,cJ,mI⟩ g3
  refine m1 (λa=>b7 a.2.2.2.2.2.1) ?_ (λF hF=>⟨λ_=>qD b8.hs (λl a b c=>F (_,_,_,4,l,a,b,c)) 80 (by decide) g3 rfl (λl q aB=>hF _ aB),λ_=>hF _ g3⟩)
  rintro⟨_,_,_,_,_,sP,ek,yy⟩ g4
  refine m1 (λa=>b7 a.2.2.2.2.2.1) ?_ (λF hF=>⟨λ_=>qD b8.s8 (λl a b c=>F (_,_,_,5,l,a,b,c)) 32 (by decide) g4 rfl (λl q aB=>hF _ aB),λ_=>hF _ g4⟩)
  rintro⟨_,_,_,_,_,kr,j0,St⟩ g5
  refine m1 (λa=>b7 a.2.2.2.2.2.1) ?_ (λF hF=>x3 b8.src g5 (λh=>hF _ h) (hF _ g5))
  rintro⟨_,_,_,_,_,Su,Sv,Sw⟩ g6
  refine m1 (λa=>b7 a.2.2.2.2.2.1) ?_ (λF hF=>⟨λ_=>qD b8.s9 (λl a b c=>F (_,_,_,7,l,a,b,c)) 40 (by decide) g6 rfl (λl q aB=>hF _ aB),λ_=>hF _ g6⟩)
  rintro⟨_,_,_,_,_,Sx,xY,Sy⟩ g7
  refine m1 (λa=>b7 a.2.2.2.2.2.1) ?_ (λF hF=>x3 b8.int g7 (λh=>hF _ h) (hF _ g7))
  rintro⟨_,_,_,_,_,Sz,GD,SA⟩ g8
  refine m1 (λa=>b7 a.2.2.2.2.2.1) ?_ (λF hF=>x3 b8.ints g8 (λh=>hF _ h) (hF _ g8))
  rintro⟨_,_,_,_,_,GF,ta,GG⟩ g9
  exact λh=>absurd (h.symm.trans ((Sm aP aa).2.trans SB)) (by decide)
end Go.aH
namespace Go.aH
open Go Go.aH Go.eT
theorem zm6(q:bh):bQ (kS q 4)≠0:=by
 by_cases h:bQ q=0
 ·rw[zbs h];decide
 ·have:(bQ q==0)=false:=by simpa using h
  unfold kS;rw[this];exact h
theorem zm7{N:Nat}{l0:List bf}(Jb:l0.length=N){q:bh}(aB:cj q){v:bh × Int}(az:v=hy q 256):
 ∃(eI:rF->Prop) (oB:rF->Nat),eI ((-1),0,l0,v.1.s,v.1.at_,v.1.bad,v.1.made)/\oB ((-1),0,l0,v.1.s,v.1.at_,v.1.bad,v.1.made)<c5/\∀(d1:rF),eI d1->(
  let gB:=decide (d1.2.1<v.2)
  let aQ:Int->ByteArray->Int->Int->Bool->Prop:=λeu v49 fO v51 fP=>
   ((gB&&(eu==0))=true->(
    let bG:Int->(List bf)->ByteArray->Int->Int->Bool->Prop:=λcC vb nf hD v85 jm=>
     eI (cC,(IntKind.wrap .i64 (d1.2.1+(1:Int))),vb,nf,hD,v85,jm)/\oB (cC,(IntKind.wrap .i64 (d1.2.1+(1:Int))),vb,nf,hD,v85,jm)<oB d1
    let cC:=dJ ⟨v49,fO,v51,fP⟩
    (hO ⟨v49,fO,v51,fP⟩)/\
    let aQ:ByteArray->Int->Int->Bool->Prop:=λgd fm hv gf=>
     let ih:=pk ⟨gd,fm,hv,gf⟩
     (yY ⟨gd,fm,hv,gf⟩)/\
     let eA:=dz ih.1
     ((eA.2==0)=true->(
      (0<=cC.2/\cC.2<(zZ5 d1.2.2.1:Int))/\
      (0<=cC.2/\cC.2<(zZ5 d1.2.2.1:Int))/\
      bG cC.2 (zYy d1.2.2.1 (zZ9 cC.2) ih.2) eA.1.s eA.1.at_ eA.1.bad eA.1.made))/\((eA.2==0)=false->(
      bG d1.1 d1.2.2.1 eA.1.s eA.1.at_ eA.1.bad eA.1.made))
    let eZ:=dz cC.1
    (((eZ.2==0)&&((decide (cC.2<=d1.1))||(decide (cC.2>=(N:Int)))))=true->(
     let hV:=tH eZ.1 (4:Int)
     aQ hV.s hV.at_ hV.bad hV.made))/\(((eZ.2==0)&&((decide (cC.2<=d1.1))||(decide (cC.2>=(N:Int)))))=false->(
     aQ eZ.1.s eZ.1.at_ eZ.1.bad eZ.1.made))))
  (gB=true->(
   let eu:=dz ⟨d1.2.2.2.1,d1.2.2.2.2.1,d1.2.2.2.2.2.1,d1.2.2.2.2.2.2⟩
   aQ eu.2 eu.1.s eu.1.at_ eu.1.bad eu.1.made))/\(gB=false->(
   aQ (0:Int) d1.2.2.2.1 d1.2.2.2.2.1 d1.2.2.2.2.2.1 d1.2.2.2.2.2.2))):=by
 rw[wb aB]at az;rw[az];obtain⟨aO,bz⟩:=CZ q;generalize m5:(cW q 256).1.toNat=n at aO bz;refine⟨λd=>(-1<=d.1/\0<=d.2.1/\d.2.1<=(n:Int)/\d.2.2.1.length=N)/\cj ⟨d.2.2.2.1,d.2.2.2.2.1,d.2.2.2.2.2.1,d.2.2.2.2.2.2⟩,λd=>n-d.2.1.toNat,⟨⟨zW1 _,zW1 _,by show(0:Int)<=n;omega,Jb⟩,rG aB⟩,by show n-0<c5;unfold c5;omega,λd ⟨⟨g1,g2,g3,g4⟩,g5⟩=>?_⟩
 obtain⟨last,k,l,a,b,c,e⟩:=d;have g1: -1<=last:=g1;have g2:0<=k:=g2;have g3:k<=(n:Int):=g3;have g4:l.length=N:=g4;have h:cj ⟨a,b,c,e⟩:=g5;intro gB aQ;have zm8:gB=decide (k<(n:Int)):=by rw[aO]
 have key: ∀(v:Int) (w:bh),cj w->aQ v w.s w.at_ w.bad w.made:=by
  intro v w hw;unfold aQ;intro hc bG cC;have zm9:cC=((bL w).2,(bL w).1):=fU hw;rw[zm8,zZr]at hc;have bR:k<(n:Int):=of_decide_eq_true hc.1;have bA:IntKind.wrap .i64 (k+1)=k+1:=iz _ (by omega) (by omega)
  have Jq: ∀(LC:Int) (dF:List bf) (q:bh), -1<=LC->dF.length=N->cj q->bG LC dF q.s q.at_ q.bad q.made:=λLC dF q eG eO mL=>by
   show((-1<=LC/\0<=IntKind.wrap .i64 (k+1)/\IntKind.wrap .i64 (k+1)<=(n:Int)/\dF.length=N)/\cj q)/\n-(IntKind.wrap .i64 (k+1)).toNat<n-k.toNat;rw[bA];exact⟨⟨⟨eG,by omega,by omega,eO⟩,mL⟩,by omega⟩
  refine⟨j8 hw,?_⟩;intro cT eZ;have SK:eZ=((bL w).2,bQ (bL w).2):=by show dz cC.1=_;rw[zm9];exact jS _
  have zbw: ∀q:bh,cj q->(bQ q=0->last<cC.2/\cC.2<(N:Int))->cT q.s q.at_ q.bad q.made:=by
   intro q aB af;unfold cT;intro ih;have zna:ih=((nC q).2,(nC q).1):=dU.ga.eq aB;refine⟨dU.ga.ok aB,?_⟩;intro eA;have zbx:eA=((nC q).2,bQ (nC q).2):=by show dz ih.1=_;rw[zna];exact jS _
   have zby:cj eA.1:=by rw[zbx];exact dU.ga.eR aB
   refine⟨λhe=>?_,λ_=>Jq last l eA.1 g1 g4 zby⟩;rw[zbx]at he;have he:bQ (nC q).2=0:=by simpa using he
   have aP:bQ q=0:=by
    by_cases aW:bQ q=0
    ·exact aW
    ·rw[dT.ga.CV q aW]at he;exact he
   obtain⟨e6,gl⟩:=af aP;have iB:0<=cC.2:=by omega
   have sG:cC.2<(zZ5 l:Int):=by omega
   exact⟨⟨iB,sG⟩,⟨iB,sG⟩,Jq cC.2 (zYy l (zZ9 cC.2) ih.2) eA.1 (by omega) (by rw[zVv,g4]) zby⟩
  refine⟨λ_=>?_,λhJ=>?_⟩
  ·intro hV
   have zbz:hV=kS eZ.1 4:=GH _ _;exact zbw hV (by rw[zbz,SK];exact CY (eS hw)) (λhe=>by rw[zbz]at he;exact absurd he (zm6 _))
  ·refine zbw eZ.1 (by rw[SK];exact eS hw) (λhe=>?_)
   have hJ:((eZ.2==0)&&(decide (cC.2<=last)||decide (cC.2>=(N:Int))))=false:=hJ
   have aP:(eZ.2==0)=true:=by rw[SK]at he⊢;simpa using he
   rw[aP,zVf]at hJ;simp only[zUx,decide_eq_false_iff_not]at hJ;omega
 refine⟨λ_=>?_,λ_=>key 0 ⟨a,b,c,e⟩ h⟩;intro eu;have znb:eu=(⟨a,b,c,e⟩,bQ ⟨a,b,c,e⟩):=jS _;exact key eu.2 eu.1 (by rw[znb];exact h)
theorem zfk{x:aY}{d:ByteArray}(hn:x.bm.length<=40)(h:b7 d):DW x d:=by
 have aP:cj ⟨d,0,0,true⟩:=zbt h;have aa:cj (bL ⟨d,0,0,true⟩).2:=eS aP;unfold DW;intro v2;refine⟨j8 aP,?_⟩;intro aQ
 have key: ∀q,cj q->aQ q.s q.at_ q.bad q.made:=by
  intro q aB;unfold aQ;intro aX;refine⟨λ_ d=>cj ⟨d.2.2.2.2.2.2.2.2.2.2.1,d.2.2.2.2.2.2.2.2.2.2.2.1,d.2.2.2.2.2.2.2.2.2.2.2.2.1,d.2.2.2.2.2.2.2.2.2.2.2.2.2⟩,aB,λi d hi hd=>?_,λc hc=>?_⟩
  ·obtain⟨d1,d2,d3,d4,d5,d6,d7,d8,d9,d10,a,b,c,e⟩:=d
   have hd:cj ⟨a,b,c,e⟩:=hd;intro u7 e0;have znc:e0=(⟨a,b,c,e⟩,bQ ⟨a,b,c,e⟩):=jS _
   clear_value e0
   subst znc;intro iI;refine⟨λ_=>by omega,λ_=>?_,λ_=>hd⟩
   intro cT;refine⟨λ_=>⟨j8 hd,?_⟩,λ_=>⟨λ_=>⟨uD hd,?_⟩,λ_=>⟨λ_=>⟨uE hd,?_⟩,λ_=>⟨λ_=>⟨dU.texts.ok hd,?_⟩,λ_=>⟨λ_=>⟨uE hd,?_⟩,λ_=>⟨λ_=>⟨uE hd,?_⟩,λ_=>⟨λ_=>⟨uD hd,?_⟩,λ_=>⟨λ_=>⟨uE hd,?_⟩,λ_=>⟨λ_=>⟨j8 hd,?_⟩,λ_=>⟨λ_=>⟨dU.ints.ok hd,?_⟩,λ_=>hd⟩⟩⟩⟩⟩⟩⟩⟩⟩⟩
   ·show cj (dJ ⟨a,b,c,e⟩).1
    rw[fU hd];exact eS hd
   ·show cj (gT ⟨a,b,c,e⟩ 60).1
    rw[mD hd];exact jz hd
   ·intro eO
    exact C0 dU.ga.eR (λq T=>let c1:=pk q;(yY q)/\T [c1.2] c1.1) (λq T aB dt=>by simp only[dU.ga.eq aB];exact⟨dU.ga.ok aB,dt⟩) 104 (by decide) eO (λi l q aB=>aB) hd rfl
   ·show cj (qX ⟨a,b,c,e⟩).1
    rw[dU.texts.eq hd];exact dU.texts.eR hd
   ·intro eO
    exact C0 dU.hs.eR (λq T=>let c1:=w0 q;(Ep q)/\T [c1.2] c1.1) (λq T aB dt=>by simp only[dU.hs.eq aB];exact⟨dU.hs.ok aB,dt⟩) 80 (by decide) eO (λi l q aB=>aB) hd rfl
   ·intro eO
    refine C0 (SC (c:=IntKind.wrap .u64)) (λq T=>let gJ:=gT q (60:Int);(ng q (60:Int))/\let eu:=dJ gJ.1;(hO gJ.1)/\let v51:=dJ eu.1;(hO eu.1)/\T [⟨gJ.2,⟨eu.2,(IntKind.wrap .u64 v51.2)⟩⟩] v51.1) (λq T aB dt=>?_) 32 (by decide) eO (λi l q aB=>aB) hd rfl
    have g1:=jz (n:=60) aB;have g2:=eS g1;simp only[mD aB,fU g1,fU g2];exact⟨uD aB,j8 g1,j8 g2,dt⟩
   ·show cj (gT ⟨a,b,c,e⟩ 20000).1
    rw[mD hd];exact jz hd
   ·intro eO
    refine C0 SD (λq T=>let eY:=gT q (60:Int);(ng q (60:Int))/\let fw:=sa eY.1;(yX eY.1)/\T [⟨eY.2,fw.2⟩] fw.1) (λq T aB dt=>?_) 40 (by decide) eO (λi l q aB=>aB) hd rfl
    have g1:=jz (n:=60) aB;simp only[mD aB,dU.items.eq g1];exact⟨uD aB,dU.items.ok g1,dt⟩
   ·show cj (dJ ⟨a,b,c,e⟩).1
    rw[fU hd];exact eS hd
   ·show cj (w1 ⟨a,b,c,e⟩ 256).1
    rw[dU.ints.eq hd];exact dU.ints.eR hd
  ·unfold aX
   obtain⟨d1,d2,d3,d4,d5,d6,d7,d8,d9,d10,a,b,c,e⟩:=c;have hd:cj ⟨a,b,c,e⟩:=hc;intro dI;have znd:dI=(⟨a,b,c,e⟩,bQ ⟨a,b,c,e⟩):=jS _
   clear_value dI
   subst znd;intro _ oH;refine⟨rH (zXx _) (by omega) (by decide),?_⟩
   intro v37;refine⟨uE hd,?_⟩;exact zm7 (l0:=x.bm) rfl hd rfl
 have bc:v2=((bL ⟨d,0,0,true⟩).2,(bL ⟨d,0,0,true⟩).1):=fU aP;have aB:cj v2.1:=by rw[bc];exact aa
 intro v5;have j0:v5=(v2.1,bQ v2.1):=jS _;have bx:cj v5.1:=by rw[j0];exact aB
 intro v20;refine⟨λ_=>?_,λ_=>key v5.1 bx⟩;intro v21;have zne:v21=kS v5.1 4:=GH _ _;exact key v21 (by rw[zne];exact CY bx)
end Go.aH
