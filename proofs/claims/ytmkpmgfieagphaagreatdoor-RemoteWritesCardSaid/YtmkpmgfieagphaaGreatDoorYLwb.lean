/- Apply is the reference's; what it leaves. Conditions: none. -/
import Derived.Test.YtmkpmgfieagphaaGreatDoorYLwa
namespace Go.aO
open Go Go.eK
theorem Qd{R A:Type}{b b':Nat→A→Step R A}{f:Nat→A→A}{I:A→Prop}: ∀(n k:Nat) (a:A),I a→(∀i a,k≤i→i<k+n→I a→b i a= .bn (f i a)∧b' i a= .bn (f i a)∧I (f i a))→∃bf,bq b k n a= .inr bf∧bq b' k n a= .inr bf∧I bf
 |0,_,a,h,_=>⟨a,rfl,rfl,h⟩
 |n+1,k,a,h,ad=>by
  obtain⟨aa,ae,au⟩:=ad k a (Nat.le_refl _) (by omega) h
  obtain⟨bf,g1,g2,g3⟩:=Qd n (k+1) (f k a) au fun i a p q=>ad i a (by omega) (by omega)
  exact⟨bf,by rw[bq,aa];exact g1,by rw[bq,ae];exact g2,g3⟩
theorem OY(c:aA)(x:ByteArray):ko c x=match cd (fun i=>decide ((c.commands.getD i (av .Command)).name=x)) c.commands.length with|some i=>(c.commands.getD i (av .Command),true)|none=>(⟨⟨#[]⟩,⟨⟨#[]⟩,0,0,0,[],false,false⟩,[]⟩,false):=by
 unfold ko
 dsimp only
 rw[toNat_cast]
 exact hq (p:=fun i=>decide ((c.commands.getD i (av .Command)).name=x)) (F:=fun i=>(c.commands.getD i (av .Command),true)) (fun i u=>by
  rw[toNat_cast,nk]
  rfl)
def r8(c:aA)(l:List az):Prop:=l.length=c.attrs.length∧∀j,j<c.attrs.length→lj (c.attrs.getD j (av .Attr)) (l.getD j (av .az))
theorem ZL{c:aA}{l:List az}(h:r8 c l){j:Nat}{v:az}(ax:lj (c.attrs.getD j (av .Attr)) v):r8 c (l.set j v):=by
 refine⟨by rw[List.length_set];exact h.1,fun i hi=>?_⟩
 have e:(l.set j v).getD i (av .az)=if j=i then v else l.getD i (av .az):=by
  rw[List.getD_eq_getElem?_getD,List.getElem?_set,List.getD_eq_getElem?_getD]
  by_cases af:j=i
  ·rw[if_pos af,if_pos af,if_pos (by rw[h.1,af];exact hi)]
   rfl
  ·rw[if_neg af,if_neg af]
 rw[e]
 by_cases af:j=i
 ·rw[if_pos af,←af]
  exact ax
 ·rw[if_neg af]
  exact h.2 i hi
theorem ZM{x y:List ByteArray}(h:tD x y=true):x.length=y.length:=by
 unfold tD at h
 dsimp only at h
 cases hc:((x.length:Int) != (y.length:Int))with
 |true=>rw[hc]at h;cases h
 |false=>
  have:(x.length:Int)=(y.length:Int):=by simpa using hc
  omega
theorem OZ{c:aA}{p:Attr}{e:bV}(h:kD c p e=0): ∃j,cd (fun i=>decide ((c.attrs.getD i (av .Attr)).name=e.attr)) c.attrs.length=some j∧Qc e (c.attrs.getD j (av .Attr)) p:=by
 unfold kD at h
 dsimp only at h
 obtain⟨aj,h⟩:=hR (by decide) h
 rw[Gy]at h
 cases hf:cd (fun i=>decide ((c.attrs.getD i (av .Attr)).name=e.attr)) c.attrs.length with
 |none=>rw[hf]at h;exact absurd (show(8:Int)=0 from h) (by decide)
 |some j=>
  rw[hf]at h;refine⟨j,rfl,?_⟩
  dsimp only at h;generalize c.attrs.getD j (av .Attr)=a at h⊢;obtain⟨_,h⟩:=hR (by decide) h
  obtain⟨_,h⟩:=hR (by decide) h
  obtain⟨aa,h⟩:=hR (by decide) h
  have aa:vI e a p=true:=by simpa using aa
  unfold vI at aa;dsimp only at aa;refine⟨fun k=>?_,fun k=>?_,fun k=>?_,fun k=>?_⟩
  ·rw[k]at aa
   have aa:(bif a.kind != 4 then(a.kind != 4)&&(hD a ⟨a.kind,e.n,⟨#[]⟩⟩==0)else(a.kind != 4)&&((0:Int)==0))=true:=aa
   cases aS:(a.kind != 4)with
   |false=>rw[aS]at aa;cases aa
   |true=>
    rw[aS]at aa;exact⟨by simpa using aS,by simpa using aa⟩
  ·rw[k]at aa
   have aa:vH a p=true:=aa
   unfold vH at aa;dsimp only at aa
   cases aS:(a.kind==p.kind)with
   |false=>rw[aS]at aa;cases aa
   |true=>
    rw[aS]at aa;exact⟨by simpa using aS,ZM (by simpa using aa)⟩
  ·rw[k]at aa h
   have aa:(a.kind==2)=true:=aa
   refine⟨by simpa using aa,?_⟩
   have h:(bif((true&&(ld e.n != e.n)))then(2:Int)else _)=0:=h
   simpa using (hR (by decide) h).1
  ·rw[k]at aa
   have aa:(a.kind==1)=true:=aa
   simpa using aa
theorem ZN{c:aA}(hc:mB c){i j:Nat}(hi:i<c.attrs.length)(af:j<c.attrs.length)(h:(c.attrs.getD i (av .Attr)).name=(c.attrs.getD j (av .Attr)).name):i=j:=by
 rcases Nat.lt_trichotomy i j with aa|aa|aa
 ·have:=GA (hc.attrs j af).2 i aa
  exact absurd h (of_decide_eq_false this)
 ·exact aa
 ·have:=GA (hc.attrs i hi).2 j aa
  exact absurd h.symm (of_decide_eq_false this)
theorem ZO{c:aA}(hc:mB c){R:Type}{x:ByteArray}{j:Nat}(af:cd (fun i=>decide ((c.attrs.getD i (av .Attr)).name=x)) c.attrs.length=some j)(F:Nat→az→az){b:Nat→List az→Step R (List az)}
 (ad: ∀i l,b i l=bif decide ((c.attrs.getD i (av .Attr)).name=x)then .bn (l.set i (F i (l.getD i (av .az))))else .bn l)(l:List az):
 bq b 0 c.attrs.length l= .inr (l.set j (F j (l.getD j (av .az)))):=by
 obtain⟨aL,bP,_⟩:=hA af
 have bP:=of_decide_eq_true bP
 have key: ∀(n k:Nat),k+n=c.attrs.length→∀gz:List az,(gz=if k≤j then l else l.set j (F j (l.getD j (av .az))))→bq b k n gz= .inr (l.set j (F j (l.getD j (av .az)))):=by
  intro n
  induction n with
  |zero=>
   intro k aj gz ar;rw[if_neg (by omega)]at ar
   rw[ar];rfl
  |succ n a7=>
   intro k aj gz ar;rw[bq,ad]
   by_cases r9:k=j
   ·subst r9
    rw[if_pos (Nat.le_refl _)]at ar;rw[decide_eq_true bP,cond_true,ar];exact a7 (k+1) (by omega) _ (by rw[if_neg (by omega)])
   ·have: ¬(c.attrs.getD k (av .Attr)).name=x:=fun h=>r9 (ZN hc (by omega) aL (by rw[h,bP]))
    rw[decide_eq_false this,cond_false];refine a7 (k+1) (by omega) gz ?_
    rw[ar]
    by_cases ae:k≤j
    ·rw[if_pos ae,if_pos (by omega)]
    ·rw[if_neg ae,if_neg (by omega)]
 exact key _ 0 (by omega) l (by rw[if_pos (Nat.zero_le _)])
theorem ZP{R:Type}{l:List az}{bad:Nat→Bool}{r:R}{b:Nat→List az→Step R (List az)}(ad: ∀i,i<l.length→∀o,b i o=bif bad i then .ret r else .bn (o++[l.getD i (av .az)])):
 ∀(n k:Nat),k+n=l.length→bq b k n (l.take k)=match(List.range' k n).find? bad with|some _=>.inl r|none=>.inr l:=by
 intro n
 induction n with
 |zero=>
  intro k aj;rw[show k=l.length by omega,List.take_length]
  rfl
 |succ n a7=>
  intro k aj;rw[bq,ad k (by omega),List.range'_succ,List.find?_cons]
  cases aS:bad k with
  |true=>rfl
  |false=>
   dsimp only[cond_false]
   have:l.take k++[l.getD k (av .az)]=l.take (k+1):=by
    rw[List.take_add_one,List.getD_eq_getElem?_getD,List.getElem?_eq_getElem (by omega)]
    rfl
   rw[this];exact a7 (k+1) (by omega)
noncomputable def yU(c:aA)(d:Command)(aH:az)(i:Nat)(l:List az):List az:=
 match cd (fun k=>decide ((c.attrs.getD k (av .Attr)).name=(d.c4.getD i (av .bV)).attr)) c.attrs.length with
 |some j=>l.set j (nq (d.c4.getD i (av .bV)) (c.attrs.getD j (av .Attr)) aH (l.getD j (av .az)))
 |none=>l
theorem ZQ{c:aA}{d:Command}{aH:az}(he: ∀i,i<d.c4.length→kD c d.param (d.c4.getD i (av .bV))=0)(hx:d.param.kind≠0→lj d.param aH){i:Nat}(hi:i<d.c4.length){l:List az}(ar:r8 c l):
 r8 c (yU c d aH i l)∧∃j,cd (fun k=>decide ((c.attrs.getD k (av .Attr)).name=(d.c4.getD i (av .bV)).attr)) c.attrs.length=some j∧r5 (d.c4.getD i (av .bV)) (c.attrs.getD j (av .Attr)) aH (l.getD j (av .az))=nq (d.c4.getD i (av .bV)) (c.attrs.getD j (av .Attr)) aH (l.getD j (av .az)):=by
 obtain⟨j,af,ir⟩:=OZ (he i hi)
 obtain⟨aE,bo⟩:=ZJ ir hx (ar.2 j (hA af).1)
 refine⟨?_,j,af,aE⟩
 unfold yU
 rw[af]
 exact ZL ar bo
end Go.aO
