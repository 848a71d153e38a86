/- Hex; script.Print and the reference's. Conditions: none. -/
import Derived.Test.YtmkpmgfieagphaaGreatDoorRLf
namespace Go.aM
open Go Go.ed
theorem My: ∀n:Nat,n<256→(0≤ba .shr .u8 (n:Int) 4∧ba .shr .u8 (n:Int) 4<16)∧(0≤ba .and .u8 (n:Int) 15∧ba .and .u8 (n:Int) 15<16)∧(0≤ba .quo .u8 (n:Int) 16∧ba .quo .u8 (n:Int) 16<16)∧(0≤ba .rem .u8 (n:Int) 16∧ba .rem .u8 (n:Int) 16<16):=by decide+kernel
def vq(c:Int):List Int:=[aC (⟨#[48,49,50,51,52,53,54,55,56,57,97,98,99,100,101,102]⟩:ByteArray) (ba .quo .u8 c 16),aC (⟨#[48,49,50,51,52,53,54,55,56,57,97,98,99,100,101,102]⟩:ByteArray) (ba .rem .u8 c 16)]
def A2:List Int:=[48,49,50,51,52,53,54,55,56,57,97,98,99,100,101,102]
theorem UG: ∀n:Nat,n<256→[hD A2 (Int.toNat (ba .shr .u8 (n:Int) 4)),hD A2 (Int.toNat (ba .and .u8 (n:Int) 15))]=vq (n:Int):=by decide+kernel
def tu(x:ByteArray):ByteArray:=bytesOf (og (fun i=>vq (aC x (i:Int))) 0 x.size)
theorem Mz(x:ByteArray):tv x=tu x:=by
 have:tv x=Sum.elim (fun r=>r) (fun bj=>bytesOf bj) (bL (fun(i:Nat) (aw:List Int)=>(Step.bn (List.append aw [hD A2 (Int.toNat (ba .shr .u8 (aC x (i:Int)) 4)),hD A2 (Int.toNat (ba .and .u8 (aC x (i:Int)) 15))]):Step ByteArray (List Int))) 0 x.size []):=by kernel_rfl
 rw[this,xR (f:=fun i=>vq (aC x (i:Int))) x.size 0 [] (fun i v _=>?_)]
 ·rfl
 ·obtain⟨n,hn,h⟩:=qm x (i:Int)
  rw[hn,UG n h];rfl
theorem MA(x:ByteArray):rQ x=tu x:=by
 unfold rQ tu
 dsimp only
 rw[Int.toNat_natCast]
 show Sum.elim _ _ (bL (fun(i:Nat) (aw:List Int)=>(Step.bn (aw++vq (aC x (i:Int))):Step ByteArray (List Int))) 0 x.size [])=_
 rw[xR (f:=fun i=>vq (aC x (i:Int))) x.size 0 [] (fun i v _=>rfl)]
 rfl
theorem A3(x:ByteArray):(tu x).size≤2*x.size:=by
 unfold tu
 rw[vc]
 exact ER (f:=fun i=>vq (aC x (i:Int))) (c:=2) x.size 0 (fun _=>Nat.le_refl _)
theorem MB{d l:List Int}{k:Nat}(hd:d.length≤2*k)(ao:l.length≤2)(aj:k<1000001):(List.length d+List.length l≤maxLen∧(List.length d+List.length l)*1≤140737488355328)∧(List.append d l).length≤2*(k+1):=by
 refine⟨⟨by unfold maxLen;omega,by omega⟩,?_⟩
 show(d++l).length≤_
 rw[List.length_append]
 omega
theorem UH{x:ByteArray}(h:x.size≤1000000):ET x:=by
 refine⟨by decide,by decide,by decide,by decide,by decide,by decide,by decide,by decide,by decide,by decide,by decide,by decide,by decide,by decide,by decide,by decide,?_,⟨by omega,by omega⟩,fun i d=>d.length≤2*i,Nat.zero_le _,fun i d hi hd=>?_⟩
 ·rw[c4 _ (by omega) (by omega)]
  unfold maxLen;omega
 ·have hi:i<x.size:=by rwa[Int.toNat_natCast]at hi
  obtain⟨n,hn,ae⟩:=qm x (i:Int);obtain⟨fE,e0,_,_⟩:=My n ae;rw[hn];exact⟨fE,fE,e0,e0,MB hd (Nat.le_refl _) (by omega)⟩
theorem UI{x:ByteArray}(h:x.size≤1000000):A4 x:=by
 refine⟨⟨by omega,by omega⟩,fun i d=>d.length≤2*i,Nat.zero_le _,fun i d hi hd=>?_⟩
 have hi:i<x.size:=by rwa[Int.toNat_natCast]at hi
 obtain⟨n,hn,ae⟩:=qm x (i:Int)
 obtain⟨_,_,fE,e0⟩:=My n ae
 rw[hn]
 exact⟨fE,e0,MB hd (Nat.le_refl _) (by omega)⟩
theorem A5(k:Int):k=2∨k=13∨k=3∨k=12∨k=8∨k=9∨k=14∨k=11∨((k==2)=false∧(k==13)=false∧(k==3)=false∧(k==12)=false∧(k==8)=false∧(k==9)=false∧(k==14)=false∧(k==11)=false):=by
 simp only[beq_eq_false_iff_ne]
 omega
theorem UJ(a:aK):xS a=qo a:=by
 obtain⟨k,n,m,key,value,event,asked⟩:=a
 rcases A5 k with h|h|h|h|h|h|h|h|⟨aa,ad,aq,aS,bC,cC,dB,fc⟩
 ·subst h;rfl
 ·subst h;rfl
 ·subst h;rfl
 ·subst h;rfl
 ·subst h;rfl
 ·subst h;rfl
 ·subst h;rfl
 ·subst h;rfl
 ·unfold xS qo
  simp only[aa,ad,aq,aS,bC,cC,dB,fc,cond_false]
theorem tw{α:Type}{c:Bool}{a b d:α}(h:b=d):(bif c then a else b)=(bif c then a else d):=by rw[h]
def dj(lo n m:Int):Bool:=(((decide (n<lo))||(decide (n>1099511627776)))||(decide (m<0)))||(decide (m>1099511627776))
def hE(d:Int):Bool:=(decide (d<1))||(decide (d>250))
theorem EU(d:Int)(c n:ByteArray):jI d c n=bif hE d then(⟨#[]⟩,2)else bif(!(valid c)|| !(valid n))then(⟨#[]⟩,10)else(gY d c n,0):=by
 unfold jI
 simp only[Uo]
 refine tw ?_
 cases valid c<;>cases valid n<;>rfl
noncomputable def hP(k:Int):ByteArray:=List.getD qp (Int.toNat (IntKind.wrap .i64 (k-1))) (dJ .str)
theorem MC(k:Int)(h:((decide (k<1))||(decide (k>16)))=false):hD ([⟨#[116,105,99,107]⟩,⟨#[115,101,110,115,101]⟩,⟨#[101,118,101,110,116]⟩,⟨#[110,111,105,115,101]⟩,⟨#[113,117,105,101,116]⟩,⟨#[111,102,102]⟩,⟨#[111,110]⟩,⟨#[99,117,116]⟩,⟨#[106,111,105,110]⟩,⟨#[99,114,97,115,104]⟩,⟨#[99,108,111,99,107]⟩,⟨#[97,115,107]⟩,⟨#[101,110,101,114,103,121]⟩,⟨#[109,111,118,101]⟩,⟨#[108,111,115,101]⟩,⟨#[116,119,105,99,101]⟩]:List ByteArray) (Int.toNat (IntKind.wrap .i64 (k-1)))=hP k:=by
 simp only[Bool.or_eq_false_iff,decide_eq_false_iff_not]at h
 have:k=1∨k=2∨k=3∨k=4∨k=5∨k=6∨k=7∨k=8∨k=9∨k=10∨k=11∨k=12∨k=13∨k=14∨k=15∨k=16:=by omega
 rcases this with rfl|rfl|rfl|rfl|rfl|rfl|rfl|rfl|rfl|rfl|rfl|rfl|rfl|rfl|rfl|rfl<;>rfl
def h1(x:jJ)(d:dI × Int):Bool:=
 (d.2 != 0)|| !(bif d.1.kind==x.request.kind then bif d.1.cY==x.request.cY then bif d.1.key.dev==x.request.key.dev then bif bq d.1.key.bp x.request.key.bp then bif bq d.1.key.attr x.request.key.attr then bif bq d.1.name x.request.name then bif d.1.value.kind==x.request.value.kind then bif d.1.value.n==x.request.value.n then bif bq d.1.value.s x.request.value.s then bq d.1.text x.request.text else false else false else false else false else false else false else false else false else false)
noncomputable def EV(x:jJ):Bool:=h1 x (gC (eZ x.request))|| !(seen x.token)
noncomputable def mM(a:aK):ByteArray × Int:=
 bif(a.kind==2)||(a.kind==13)then
  bif dj 0 a.n a.m then(⟨#[]⟩,2)else bif hE a.key.dev then(⟨#[]⟩,2)else bif(!(valid a.key.bp)|| !(valid a.key.attr))then(⟨#[]⟩,10)else bif(eU a.value != 0)then(⟨#[]⟩,eU a.value)else bif(a.value.kind==0)then(⟨#[]⟩,4)else
   (ByteArray.append (ByteArray.append (ByteArray.append (ByteArray.append (hP a.kind) ⟨#[32]⟩) (gY a.key.dev a.key.bp a.key.attr)) ⟨#[32]⟩) (fT a.value),0)
 else bif(a.kind==3)then
  bif dj 0 a.n a.m then(⟨#[]⟩,2)else bif hE a.event.dev then(⟨#[]⟩,2)else bif(!(valid a.event.bp)|| !(valid a.event.name))then(⟨#[]⟩,10)else
   (ByteArray.append (ByteArray.append (hP a.kind) ⟨#[32]⟩) (gY a.event.dev a.event.bp a.event.name),0)
 else bif(a.kind==12)then
  bif dj 0 a.n a.m then(⟨#[]⟩,2)else bif EV a.asked then(⟨#[]⟩,4)else
   (ByteArray.append (ByteArray.append (ByteArray.append (ByteArray.append (hP a.kind) ⟨#[32]⟩) a.asked.token) ⟨#[32]⟩) (tu (eZ a.asked.request)),0)
 else bif(a.kind==8)||(a.kind==9)then
  bif dj 0 a.n a.m then(⟨#[]⟩,2)else(ByteArray.append (ByteArray.append (ByteArray.append (ByteArray.append (hP a.kind) ⟨#[32]⟩) (fe a.n)) ⟨#[32]⟩) (fe a.m),0)
 else bif(a.kind==14)then
  bif dj 0 a.n a.m then(⟨#[]⟩,2)else(hP a.kind,0)
 else
  bif dj (bif(a.kind==11)then -1 else 0) a.n a.m then(⟨#[]⟩,2)else(ByteArray.append (ByteArray.append (hP a.kind) ⟨#[32]⟩) (fe a.n),0)
noncomputable def A6(v4 x0:aK):Bool:=!(bif v4.kind==x0.kind then bif v4.n==x0.n then bif v4.m==x0.m then bif v4.key.dev==x0.key.dev then bif bq v4.key.bp x0.key.bp then bif bq v4.key.attr x0.key.attr then bif v4.value.kind==x0.value.kind then bif v4.value.n==x0.value.n then bif bq v4.value.s x0.value.s then bif v4.event.dev==x0.event.dev then bif bq v4.event.bp x0.event.bp then bif bq v4.event.name x0.event.name then bif bq v4.asked.token x0.asked.token then bif v4.asked.request.kind==x0.asked.request.kind then bif v4.asked.request.cY==x0.asked.request.cY then bif v4.asked.request.key.dev==x0.asked.request.key.dev then bif bq v4.asked.request.key.bp x0.asked.request.key.bp then bif bq v4.asked.request.key.attr x0.asked.request.key.attr then bif bq v4.asked.request.name x0.asked.request.name then bif v4.asked.request.value.kind==x0.asked.request.value.kind then bif v4.asked.request.value.n==x0.asked.request.value.n then bif bq v4.asked.request.value.s x0.asked.request.value.s then bq v4.asked.request.text x0.asked.request.text else false else false else false else false else false else false else false else false else false else false else false else false else false else false else false else false else false else false else false else false else false else false)
noncomputable def iI(a:aK):ByteArray × Int:=
 bif((decide (a.kind<1))||(decide (a.kind>16)))then(⟨#[]⟩,7)else bif A6 (qo a) a then(⟨#[]⟩,1)else mM a
structure hM (a:aK):Prop where
 k:di a.kind
 n:di a.n
 m:di a.m
 MD:di a.key.dev
 A7:bz a.key.bp
 A8:bz a.key.attr
 v:ql a.value
 ME:di a.event.dev
 vd:bz a.event.bp
 vr:bz a.event.name
 t:bz a.asked.token
 q:ly a.asked.request
theorem A9{a:aK}(aI:hM a):m13 a=iI a:=by
 obtain⟨k,n,m,key,value,event,asked⟩:=a
 unfold m13 iI
 cases aj:((decide (k<1))||(decide (k>16)))with
 |true=>rfl
 |false=>
  simp only[cond_false]
  have hw:=MC k aj
  show(bif A6 (qo ⟨k,n,m,key,value,event,asked⟩) ⟨k,n,m,key,value,event,asked⟩then _ else _)=_
  refine tw ?_
  rw[hw];clear aj hw
  have aG:asked.token.size<9223372036854775808:=by have:=aI.t;unfold bz at this;simp only at this;omega
  have vt:dC (eZ asked.request):=xQ aI.q
  have tx: ∀k,k=2∨k=13→jK ⟨k,n,m,key,value,event,asked⟩=(bif dj 0 n m then 2 else bif hE key.dev then 2 else 0)∧
   pn ⟨k,n,m,key,value,event,asked⟩=(bif !(kt key.bp)then(bif(!(kt key.bp)|| !false)then 10 else bif(eU value != 0)then eU value else bif(value.kind==0)then 4 else 0)else(bif(!(kt key.bp)|| !(kt key.attr))then 10 else bif(eU value != 0)then eU value else bif(value.kind==0)then 4 else 0)):=by
   intro k aj
   rcases aj with rfl|rfl<;>exact⟨rfl,rfl⟩
  rcases A5 k with h|h|h|h|h|h|h|h|⟨aa,ad,aq,aS,bC,cC,dB,fc⟩
  ·subst h
   rw[(tx 2 (.inl rfl)).1,(tx 2 (.inl rfl)).2,vl,vl];show(bif(bif dj 0 n m then(2:Int)else bif hE key.dev then 2 else 0) != 0 then _ else _)=(bif dj 0 n m then _ else _)
   show _=(bif dj 0 n m then _ else bif hE key.dev then _ else bif(!(valid key.bp)|| !(valid key.attr))then _ else bif(eU value != 0)then _ else bif(value.kind==0)then _ else _)
   generalize eU value=e
   cases dj 0 n m
   ·cases hE key.dev
    ·cases valid key.bp
     ·rfl
     ·cases valid key.attr
      ·rfl
      ·cases bC:(e != 0)
       ·cases (value.kind==0)<;>rfl
       ·show(bif(e != 0)then _ else _)=_
        rw[bC];rfl
    ·rfl
   ·rfl
  ·subst h
   rw[(tx 13 (.inr rfl)).1,(tx 13 (.inr rfl)).2,vl,vl];show(bif(bif dj 0 n m then(2:Int)else bif hE key.dev then 2 else 0) != 0 then _ else _)=(bif dj 0 n m then _ else _)
   show _=(bif dj 0 n m then _ else bif hE key.dev then _ else bif(!(valid key.bp)|| !(valid key.attr))then _ else bif(eU value != 0)then _ else bif(value.kind==0)then _ else _)
   generalize eU value=e
   cases dj 0 n m
   ·cases hE key.dev
    ·cases valid key.bp
     ·rfl
     ·cases valid key.attr
      ·rfl
      ·cases bC:(e != 0)
       ·cases (value.kind==0)<;>rfl
       ·show(bif(e != 0)then _ else _)=_
        rw[bC];rfl
    ·rfl
   ·rfl
  ·subst h
   have mN:jK ⟨3,n,m,key,value,event,asked⟩=bif dj 0 n m then 2 else bif hE event.dev then 2 else 0:=rfl
   have tz:pn ⟨3,n,m,key,value,event,asked⟩=bif !(kt event.bp)then(bif(!(kt event.bp)|| !false)then 10 else 0)else(bif(!(kt event.bp)|| !(kt event.name))then 10 else 0):=rfl
   rw[mN,tz,vl,vl];show(bif(bif dj 0 n m then(2:Int)else bif hE event.dev then 2 else 0) != 0 then _ else _)=(bif dj 0 n m then _ else _)
   cases dj 0 n m<;>cases hE event.dev<;>cases valid event.bp<;>cases valid event.name<;>rfl
  ·subst h
   have mN:jK ⟨12,n,m,key,value,event,asked⟩=bif dj 0 n m then 2 else 0:=by
    have:jK ⟨12,n,m,key,value,event,asked⟩=bif dj 0 n m then 2 else bif hE 1 then 2 else 0:=rfl
    rw[this];rfl
   have tz:pn ⟨12,n,m,key,value,event,asked⟩=bif h1 asked (hC (eZ asked.request))then(bif(h1 asked (hC (eZ asked.request))|| !false)then 4 else 0)else(bif(h1 asked (hC (eZ asked.request))|| !(vn asked.token))then 4 else 0):=by kernel_rfl
   rw[mN,tz,vj vt,Up aG];simp only[Mz];show(bif(bif dj 0 n m then(2:Int)else 0) != 0 then _ else _)=(bif dj 0 n m then _ else bif(h1 asked (gC (eZ asked.request))|| !(seen asked.token))then _ else _)
   cases dj 0 n m<;>cases h1 asked (gC (eZ asked.request))<;>cases seen asked.token<;>rfl
  ·subst h
   have mN:jK ⟨8,n,m,key,value,event,asked⟩=bif dj 0 n m then 2 else 0:=by
    have:jK ⟨8,n,m,key,value,event,asked⟩=bif dj 0 n m then 2 else bif hE 1 then 2 else 0:=rfl
    rw[this];rfl
   rw[mN];show(bif(bif dj 0 n m then(2:Int)else 0) != 0 then _ else _)=(bif dj 0 n m then _ else _)
   cases dj 0 n m<;>rfl
  ·subst h
   have mN:jK ⟨9,n,m,key,value,event,asked⟩=bif dj 0 n m then 2 else 0:=by
    have:jK ⟨9,n,m,key,value,event,asked⟩=bif dj 0 n m then 2 else bif hE 1 then 2 else 0:=rfl
    rw[this];rfl
   rw[mN];show(bif(bif dj 0 n m then(2:Int)else 0) != 0 then _ else _)=(bif dj 0 n m then _ else _)
   cases dj 0 n m<;>rfl
  ·subst h
   have mN:jK ⟨14,n,m,key,value,event,asked⟩=bif dj 0 n m then 2 else 0:=by
    have:jK ⟨14,n,m,key,value,event,asked⟩=bif dj 0 n m then 2 else bif hE 1 then 2 else 0:=rfl
    rw[this];rfl
   rw[mN];show(bif(bif dj 0 n m then(2:Int)else 0) != 0 then _ else _)=(bif dj 0 n m then _ else _)
   cases dj 0 n m<;>rfl
  ·subst h
   have mN:jK ⟨11,n,m,key,value,event,asked⟩=bif dj (-1) n m then 2 else 0:=by
    have:jK ⟨11,n,m,key,value,event,asked⟩=bif dj (-1) n m then 2 else bif hE 1 then 2 else 0:=rfl
    rw[this];rfl
   rw[mN];show(bif(bif dj (-1) n m then(2:Int)else 0) != 0 then _ else _)=(bif dj (-1) n m then _ else _)
   cases dj (-1) n m<;>rfl
  ·have mN:jK ⟨k,n,m,key,value,event,asked⟩=bif dj 0 n m then 2 else 0:=by
    have:jK ⟨k,n,m,key,value,event,asked⟩=bif dj 0 n m then 2 else bif hE 1 then 2 else 0:=by
     unfold jK;simp only[aa,ad,aq,fc,cond_false];rfl
    rw[this];rfl
   have tz:pn ⟨k,n,m,key,value,event,asked⟩=0:=by
    unfold pn;simp only[aa,ad,aq,aS,cond_false]
   rw[mN,tz];unfold mM;simp only[aa,ad,aq,aS,bC,cC,dB,fc,cond_false,Bool.or_self]
   cases dj 0 n m<;>rfl
end Go.aM
namespace Go.aM
open Go Go.ed
theorem Ba{a:aK}(aI:hM a):m14 a=iI a:=by
 obtain⟨k,n,m,key,value,event,asked⟩:=a
 unfold m14 iI
 cases aj:((decide (k<1))||(decide (k>16)))with
 |true=>rfl
 |false=>
  simp only[cond_false,UJ];show(bif A6 (qo ⟨k,n,m,key,value,event,asked⟩) ⟨k,n,m,key,value,event,asked⟩then _ else _)=_
  refine tw ?_
  clear aj
  have vt:dC (eZ asked.request):=xQ aI.q
  have aL:l1 asked.request=eZ asked.request:=Mq aI.q
  have tx: ∀W:ByteArray,(bif((jI key.dev key.bp key.attr).2 != 0)then((⟨#[]⟩:ByteArray),(jI key.dev key.bp key.attr).2)else bif(lZ value != 0)then(⟨#[]⟩,lZ value)else bif(value.kind==0)then(⟨#[]⟩,4)else
   (ByteArray.append (ByteArray.append (ByteArray.append (ByteArray.append W ⟨#[32]⟩) (jI key.dev key.bp key.attr).1) ⟨#[32]⟩) (pk value),0))=
   bif hE key.dev then(⟨#[]⟩,2)else bif(!(valid key.bp)|| !(valid key.attr))then(⟨#[]⟩,10)else bif(eU value != 0)then(⟨#[]⟩,eU value)else bif(value.kind==0)then(⟨#[]⟩,4)else
   (ByteArray.append (ByteArray.append (ByteArray.append (ByteArray.append W ⟨#[32]⟩) (gY key.dev key.bp key.attr)) ⟨#[32]⟩) (fT value),0):=by
   intro W;rw[EU,vi,EN]
   cases hE key.dev
   ·cases (!(valid key.bp)|| !(valid key.attr))<;>rfl
   ·rfl
  rcases A5 k with h|h|h|h|h|h|h|h|⟨aa,ad,aq,aS,bC,cC,dB,fc⟩
  ·subst h
   show(bif dj 0 n m then _ else _)=(bif dj 0 n m then _ else _)
   refine tw ?_
   exact tx (hP 2)
  ·subst h
   show(bif dj 0 n m then _ else _)=(bif dj 0 n m then _ else _)
   refine tw ?_
   exact tx (hP 13)
  ·subst h
   show(bif dj 0 n m then _ else _)=(bif dj 0 n m then _ else _)
   refine tw ?_
   show(bif((jI event.dev event.bp event.name).2 != 0)then((⟨#[]⟩:ByteArray),(jI event.dev event.bp event.name).2)else(ByteArray.append (ByteArray.append (hP 3) ⟨#[32]⟩) (jI event.dev event.bp event.name).1,0))=_
   rw[EU]
   cases hE event.dev
   ·cases av:(!(valid event.bp)|| !(valid event.name))<;>rfl
   ·rfl
  ·subst h
   have e: ∀W d h,(bif(((!(vo asked.token))||(d.2 != 0))|| !(bif d.1.kind==asked.request.kind then bif d.1.cY==asked.request.cY then bif d.1.key.dev==asked.request.key.dev then bif bq d.1.key.bp asked.request.key.bp then bif bq d.1.key.attr asked.request.key.attr then bif bq d.1.name asked.request.name then bif d.1.value.kind==asked.request.value.kind then bif d.1.value.n==asked.request.value.n then bif bq d.1.value.s asked.request.value.s then bq d.1.text asked.request.text else false else false else false else false else false else false else false else false else false))then((⟨#[]⟩:ByteArray),(4:Int))else(ByteArray.append (ByteArray.append (ByteArray.append (ByteArray.append W ⟨#[32]⟩) asked.token) ⟨#[32]⟩) h,0))=
    bif(h1 asked d|| !(seen asked.token))then((⟨#[]⟩:ByteArray),(4:Int))else(ByteArray.append (ByteArray.append (ByteArray.append (ByteArray.append W ⟨#[32]⟩) asked.token) ⟨#[32]⟩) h,0):=by
    intro W d h;unfold h1;rw[Ur]
    cases seen asked.token<;>cases (d.2 != 0)<;>simp only[Bool.not_true,Bool.not_false,Bool.true_or,Bool.false_or,Bool.or_true,Bool.or_false]
   show(bif dj 0 n m then _ else _)=(bif dj 0 n m then _ else _)
   refine tw ?_
   refine Eq.trans (Eq.trans (by kernel_rfl) (e (hP 12) (nB (l1 asked.request)) (rQ (l1 asked.request)))) ?_
   rw[aL,Ez vt,MA];rfl
  ·subst h
   rfl
  ·subst h
   rfl
  ·subst h
   rfl
  ·subst h
   rfl
  ·unfold mM
   simp only[aa,ad,aq,aS,bC,cC,dB,fc,cond_false,Bool.or_self];rfl
end Go.aM
namespace Go.aM
open Go Go.ed
theorem UK(r:Rd)(n:Int)(hn:0≤n):(gq r n).1≤n:=by
 unfold gq
 cases cX:((jG ((cW r).2)) != 0)with
 |true=>exact hn
 |false=>
  simp only[cond_false]
  cases gb:decide ((cW r).1<0)with
  |true=>exact hn
  |false=>
   simp only[cond_false]
   cases mE:decide ((cW r).1>(if 0>n then 0 else n))with
   |true=>exact hn
   |false=>
    have mE:=of_decide_eq_false mE
    rw[if_neg (by omega)]at mE
    simp only[cond_false];omega
theorem xT(r:Rd)(n:Int)(hn:0≤n):((iF r n).1.size:Int)≤n:=by
 have h:=UK r n hn
 have aU:=L4 r n
 unfold iF
 simp only[cond_eq_ite]
 repeat' split
 ·exact hn
 ·exact hn
 ·show((ByteArray.size (ByteArray.extract _ 0 _):Nat):Int)≤n
  rw[ByteArray.size_extract];omega
theorem UL{x:jJ}{s:ByteArray}(h:h1 x (gC s)=false):x.request.key.bp.size≤24∧x.request.key.attr.size≤24∧x.request.name.size≤24∧x.request.text.size≤20000:=by
 unfold h1 at h
 rw[Bool.or_eq_false_iff,Bool.not_eq_false']at h
 obtain⟨aa,ad⟩:=h
 have e:gC s=(eE s,0):=by
  revert aa;unfold gC
  split
  ·rename_i h
   intro aa;exact absurd (by simpa using aa) h
  ·split
   ·intro aa
    exact absurd aa (by decide)
   ·split
    ·intro aa
     exact absurd aa (by decide)
    ·intro _
     rfl
 rw[e]at ad
 unfold eE at ad
 simp only[cond_eq_ite,Bool.if_false_right,Bool.and_eq_true,decide_eq_true_eq,xU,Bool.decide_eq_true]at ad
 obtain⟨_,_,_,aq,aS,bC,_,_,_,cC⟩:=ad
 rw[←aq,←aS,←bC,←cC]
 have t1:=xT (mG s).2 24 (by decide)
 have t2:=xT (mH s).2 24 (by decide)
 have t3:=xT (mI s).2 24 (by decide)
 have t4:((kn s).1.size:Int)≤20000:=by
  unfold kn;exact xT _ _ (by decide)
 have t4:(kn s).1.size≤20000:=by omega
 refine⟨Int.ofNat_le.1 t1,Int.ofNat_le.1 t2,Int.ofNat_le.1 t3,?_⟩
 exact t4
theorem Bb{s:ByteArray}(h:bz s):(hB s).size≤s.size+10:=by
 rw[AG h,T9]
 have:=vf (u:=gA s.size)
 omega
theorem EW{x:jJ}{s:ByteArray}(aI:ly x.request)(h:h1 x (gC s)=false):(eZ x.request).size≤1000000:=by
 obtain⟨bD,a2,a3,a4⟩:=UL h
 obtain⟨aa,ad,aq,_,_,_,dB,_⟩:=AU aI
 have EI:(l0 ⟨x.request.value.kind,x.request.value.n,x.request.value.s⟩).size≤80:=dB
 have eT:=Bb aI.c
 have gK:=Bb aI.a
 have gf:=Bb aI.m
 have qq:=Bb aI.t
 unfold eZ
 simp only[eY]
 omega
theorem Bc(d:Int)(c n:ByteArray):(gY d c n).size≤23+c.size+n.size:=by
 unfold gY
 have:=nC d
 simp only[eY]
 have:ByteArray.size (⟨#[46]⟩:ByteArray)=1:=rfl
 omega
theorem MF{d:Int}{c n:ByteArray}(hd:di d)(hc:bz c)(hn:bz n):Bd d c n:=by
 have:=nC d
 have e:ByteArray.size (⟨#[46]⟩:ByteArray)=1:=rfl
 unfold bz at hc hn
 refine⟨hd.p,?_,?_,?_,?_⟩<;>(try simp only[eY])<;>omega
theorem MG{d:Int}{c n:ByteArray}(hd:di d)(hc:bz c)(hn:bz n):xV d c n:=by
 have:=nC d
 have:(kW d).size≤21:=this
 have e:ByteArray.size (⟨#[46]⟩:ByteArray)=1:=rfl
 unfold bz at hc hn
 unfold xV
 intro _
 refine⟨Ml _,?_⟩
 intro aT ay
 have dG: ∀b,ay b:=by
  intro b _ v11
  have:v11.size≤21:=nC d
  refine⟨hd.p,?_,?_,?_,?_⟩<;>(try simp only[eY])<;>omega
 exact⟨fun _=>dG _,fun _=>⟨Ml _,dG _⟩⟩
theorem MH{d:Int}{c n:ByteArray}(hc:bz c)(hn:bz n):(jI d c n).1.size≤300000000000000:=by
 rw[EU]
 have:=Bc d c n
 unfold bz at hc hn
 simp only[cond_eq_ite]
 repeat' split
 ·exact Nat.zero_le _
 ·exact Nat.zero_le _
 ·show(gY d c n).size≤_
  omega
theorem UM{a:aK}(aI:hM a):Be a:=by
 unfold Be
 have aG:a.asked.token.size<9223372036854775808:=by have:=aI.t;unfold bz at this;omega
 intro ay
 have dG: ∀b,ay b:=by
  intro b;refine⟨fun _=>⟨AR _,fun _=>AR _⟩,fun _=>⟨fun _=>⟨AR _,fun _=>AR _⟩,fun _ _=>⟨Mr aI.q,Mf (xQ aI.q),fun _=>Uq aG⟩⟩⟩
 exact⟨fun _=>dG _,fun _=>dG _⟩
theorem EX(k:Int):(hP k).size≤10:=by
 have: ∀i:Nat,(List.getD qp i (dJ .str)).size≤10:=by
  intro i
  rcases Nat.lt_or_ge i 16 with h|h
  ·revert i
   decide+kernel
  ·rw[List.getD_eq_getElem?_getD,List.getElem?_eq_none (by exact h)]
   exact Nat.zero_le _
 exact this _
theorem MI{k:Int}(h:((decide (k<1))||(decide (k>16)))=false):0≤IntKind.wrap .i64 (k-(1:Int))∧IntKind.wrap .i64 (k-(1:Int))<(16:Int):=by
 simp only[Bool.or_eq_false_iff,decide_eq_false_iff_not]at h
 rw[c4 _ (by omega) (by omega)]
 omega
theorem Bf{a:aK}(aI:hM a):vu a:=by
 obtain⟨k,n,m,key,value,event,asked⟩:=a
 have MJ:ByteArray.size (⟨#[32]⟩:ByteArray)=1:=rfl
 have MK:=nC n
 have sm:=nC m
 have st:asked.token.size≤140737488351232:=aI.t
 have vv:(gY key.dev key.bp key.attr).size≤300000000000000:=by
  have:=Bc key.dev key.bp key.attr
  have aa:key.bp.size≤140737488351232:=aI.A7
  have ad:key.attr.size≤140737488351232:=aI.A8
  omega
 have zdA:(gY event.dev event.bp event.name).size≤300000000000000:=by
  have:=Bc event.dev event.bp event.name
  have aa:event.bp.size≤140737488351232:=aI.vd
  have ad:event.name.size≤140737488351232:=aI.vr
  omega
 have UN:=ES value
 intro aj v4 v5 UO v6 zdB bf
 refine⟨UM aI,?_⟩
 intro Bg v10 v11
 refine⟨MI aj,?_⟩
 have ML:v11.size≤10:=by
  have:=EX k
  rw[←MC k aj]at this;exact this
 intro ay
 have dG: ∀b,ay b:=by
  intro b;refine⟨fun _=>?_,fun _=>⟨fun _=>?_,fun _=>⟨fun gZ=>?_,fun _=>?_⟩⟩⟩
  ·refine⟨?_,MF aI.MD aI.A7 aI.A8,?_,?_,Mw aI.v.n,?_⟩
   ·omega
   ·have:(vw ⟨key.dev,key.bp,key.attr⟩).size≤300000000000000:=vv
    simp only[eY];omega
   ·have:(vw ⟨key.dev,key.bp,key.attr⟩).size≤300000000000000:=vv
    simp only[eY];omega
   ·have:(vw ⟨key.dev,key.bp,key.attr⟩).size≤300000000000000:=vv
    have:(fT ⟨value.kind,value.n,value.s⟩).size≤250:=UN
    simp only[eY];omega
  ·refine⟨?_,MF aI.ME aI.vd aI.vr,?_⟩
   ·omega
   ·simp only[eY];omega
  ·have gZ:k=12:=by simpa using gZ
   subst gZ
   have tz:pn ⟨12,n,m,key,value,event,asked⟩=bif h1 asked (hC (eZ asked.request))then(bif(h1 asked (hC (eZ asked.request))|| !false)then 4 else 0)else(bif(h1 asked (hC (eZ asked.request))|| !(vn asked.token))then 4 else 0):=by kernel_rfl
   have af:h1 asked (gC (eZ asked.request))=false:=by
    have Bg:(pn ⟨12,n,m,key,value,event,asked⟩ != 0)=false:=Bg
    rw[tz,vj (xQ aI.q)]at Bg;revert Bg
    cases h1 asked (gC (eZ asked.request))
    ·exact fun _=>rfl
    ·intro h
     exact absurd h (show ¬((4:Int) != 0)=false by decide)
   have ag:(eZ asked.request).size≤1000000:=EW aI.q af
   have hx:(tv (eZ asked.request)).size≤2*(eZ asked.request).size:=by rw[Mz];exact A3 _
   refine⟨?_,?_,?_,Mr aI.q,UH ag,?_⟩
   ·omega
   ·simp only[eY];omega
   ·simp only[eY];omega
   ·show ByteArray.size _+(tv (eZ asked.request)).size≤_
    simp only[eY];omega
  ·intro bV
   have rR: ∀b,bV b:=by
    intro b;refine⟨fun _=>⟨?_,aI.n.p,?_,?_,aI.m.p,?_⟩,fun _ _=>⟨?_,aI.n.p,?_⟩⟩<;>(try simp only[eY])<;>omega
   exact⟨fun _=>rR _,fun _=>rR _⟩
 exact⟨fun _=>dG _,fun _=>dG _⟩
set_option maxRecDepth 8000 in
theorem MM{a:aK}(aI:hM a):Bh a:=by
 obtain⟨k,n,m,key,value,event,asked⟩:=a
 have MJ:ByteArray.size (⟨#[32]⟩:ByteArray)=1:=rfl
 have MK:(kW n).size≤21:=nC n
 have sm:(kW m).size≤21:=nC m
 have st:asked.token.size≤140737488351232:=aI.t
 have EY:=MH (d:=key.dev) aI.A7 aI.A8
 have UP:=MH (d:=event.dev) aI.vd aI.vr
 have UQ:(pk value).size≤250:=by rw[EN];exact ES value
 have vt:dC (eZ asked.request):=xQ aI.q
 have aL:l1 asked.request=eZ asked.request:=Mq aI.q
 intro aj v4 v5 UO v6 aT bf
 have ML:bf.size≤10:=EX k
 refine⟨MI aj,?_⟩
 intro ay
 have dG: ∀b,ay b:=by
  intro b _ bV
  have rR: ∀b,bV b:=by
   intro b;refine⟨fun _=>⟨MG aI.MD aI.A7 aI.A8,fun _ _ _=>⟨?_,?_,?_,Mx aI.v.n,?_⟩⟩,fun _=>⟨fun _=>⟨MG aI.ME aI.vd aI.vr,fun _=>⟨?_,?_⟩⟩,fun _=>?_⟩⟩
   ·omega
   ·have:(jI key.dev key.bp key.attr).1.size≤300000000000000:=EY
    simp only[eY];omega
   ·have:(jI key.dev key.bp key.attr).1.size≤300000000000000:=EY
    simp only[eY];omega
   ·have:(jI key.dev key.bp key.attr).1.size≤300000000000000:=EY
    have:(pk ⟨value.kind,value.n,value.s⟩).size≤250:=UQ
    simp only[eY];omega
   ·omega
   ·have:(jI event.dev event.bp event.name).1.size≤300000000000000:=UP
    simp only[eY];omega
   ·intro UR
    have MN: ∀b,UR b:=by
     intro b;refine⟨fun _=>⟨?_,aI.n.p,?_,?_,aI.m.p,?_⟩,fun _=>⟨fun _=>?_,fun _ _=>⟨?_,aI.n.p,?_⟩⟩⟩
     ·omega
     ·simp only[eY];omega
     ·simp only[eY];omega
     ·simp only[eY];omega
     ·refine⟨Uy aI.q,?_,Us _,?_⟩
      ·show qk (l1 asked.request)
       rw[aL];exact Mh vt
      ·intro nD h
       rw[Bool.or_eq_false_iff,Bool.or_eq_false_iff]at h
       have af:h1 asked (nB (l1 asked.request))=false:=by
        rw[h1,Bool.or_eq_false_iff];exact⟨h.1.2,h.2⟩
       rw[aL,Ez vt]at af
       have aX:(tu (eZ asked.request)).size≤2*(eZ asked.request).size:=A3 _
       have ag:(eZ asked.request).size≤1000000:=EW aI.q af
       have hx:(rQ (l1 asked.request)).size≤2*(eZ asked.request).size:=by rw[aL,MA];exact A3 _
       refine⟨?_,?_,?_,?_,?_⟩
       ·omega
       ·simp only[eY];omega
       ·simp only[eY];omega
       ·show A4 (l1 asked.request)
        rw[aL];exact UI ag
       ·show ByteArray.size _+(rQ (l1 asked.request)).size≤_
        simp only[eY];omega
     ·omega
     ·simp only[eY];omega
    exact⟨fun _=>MN _,fun _=>MN _⟩
  exact⟨fun _=>rR _,fun _=>rR _⟩
 exact⟨fun _=>dG _,fun _=>dG _⟩
end Go.aM
namespace Go.aM
open Go Go.ed
theorem vx(z:Int):di (IntKind.wrap .i64 z):=by
 unfold di
 simp[IntKind.wrap,IntKind.bits,IntKind.signed]
 omega
theorem rS(x:ByteArray)(c:Int): -1≤eV x c∧eV x c<(x.size:Int):=by
 show -1≤tA x c∧tA x c<(x.size:Int)
 unfold tA
 split
 ·rename_i i h
  have:=List.mem_of_find?_eq_some h
  rw[List.mem_range]at this;omega
 ·omega
theorem EZ{R A B:Type}{Q:B→Prop}{f:R→B}{g:A→B}{l:R⊕A}(aa: ∀r,l= .inl r→Q (f r))(ad: ∀a,l= .inr a→Q (g a)):Q (Sum.elim f g l):=by
 cases l with
 |inl r=>exact aa r rfl
 |inr a=>exact ad a rfl
theorem US{R A:Type}{b:Nat→A→Step R A}{Q:R→Prop}(h: ∀i a r,b i a= .ret r→Q r): ∀(n k:Nat) (a:A) (r:R),bL b k n a= .inl r→Q r:=by
 intro n
 induction n with
 |zero=>intro k a r h;simp[bL]at h
 |succ n aR=>
  intro k a r af;unfold bL at af
  split at af
  ·rename_i ew ae
   cases af;exact h _ _ _ ae
  ·cases af
  ·exact aR _ _ _ af
theorem MO{R A:Type}{b:A→Step R A}{Q:R→Prop}(h: ∀a r,b a= .ret r→Q r): ∀(n:Nat) (a:A) (r:R),b4 b n a= .inl r→Q r:=by
 intro n
 induction n with
 |zero=>intro a r h;simp[b4]at h
 |succ n aR=>
  intro a r af;unfold b4 at af
  split at af
  ·rename_i ew ae
   cases af;exact h _ _ ae
  ·cases af
  ·exact aR _ _ af
theorem UT{R A:Type}{b:A→Step R A}{I:A→Prop}(h: ∀a,I a→(∀aY,b a= .bn aY→I aY)∧∀aY,b a= .b8 aY→I aY): ∀(n:Nat) (a aY:A),I a→b4 b n a= .inr aY→I aY:=by
 intro n
 induction n with
 |zero=>intro a aY cd h;simp[b4]at h;exact h ▸ cd
 |succ n aR=>
  intro a aY cd af;unfold b4 at af
  split at af
  ·cases af
  ·rename_i a2 ae
   cases af;exact(h a cd).2 _ ae
  ·rename_i a2 ae
   exact aR _ _ ((h a cd).1 _ ae) af
theorem UU(v:Int): -1099511627776≤hQ v∧hQ v≤1099511627776:=by
 unfold hQ
 have h: -1099511627776≤b6.den (.mx .i64) v ((-1099511627776):Int):=by
  show(-1099511627776:Int)≤(if(-1099511627776:Int)>v then(-1099511627776:Int)else v)
  split<;>omega
 generalize b6.den (.mx .i64) v ((-1099511627776):Int)=z at h⊢
 have h:(-1099511627776:Int)≤z:=h
 show -1099511627776≤(if(1099511627776:Int)<z then(1099511627776:Int)else z)∧(if(1099511627776:Int)<z then(1099511627776:Int)else z)≤1099511627776
 split<;>omega
theorem UW{v:Int}(h:(hQ v != v)=false):di v:=by
 have e:hQ v=v:=by simpa using h
 have:=UU v
 rw[e]at this
 unfold di
 omega
theorem po(x:ByteArray):ku x:=by
 unfold ku
 intro v3 h
 simp only[Bool.or_eq_false_iff,beq_eq_false_iff_ne,decide_eq_false_iff_not]at h
 obtain⟨aa,ad⟩:=h
 have ad: ¬(x.size:Int)>14:=ad
 refine⟨⟨by show(0:Int)≤(x.size:Int);omega,by show(x.size:Int)<_;omega⟩,?_⟩
 intro aV
 refine⟨fun _ d=>di d,bN,?_,?_⟩
 ·intro i7 d0 _ hd ay v9
  exact⟨fun _=>vx _,fun _ _=>hd⟩
 ·intro bj hc
  exact⟨⟨Int.le_refl _,by omega⟩,fun _ _=>(vx _).p,fun _ _=>hc.p⟩
theorem mO(x:ByteArray):di (cK x).1:=by
 have fin: ∀(v:Int) (w:ByteArray),di (bif((hQ v != v)||a8 .neq w x)then((0:Int),false)else(v,true)).1:=by
  intro v w
  cases h:(hQ v != v)
  ·cases a8 .neq w x
   ·exact UW h
   ·exact bN
  ·exact bN
 have qt: ∀v:Int,di (bif(hQ v != v)then(bif((hQ v != v)||a8 .neq (⟨#[]⟩:ByteArray) x)then((0:Int),false)else(v,true))else(bif((hQ v != v)||a8 .neq (fe v) x)then((0:Int),false)else(v,true))).1:=by
  intro v
  cases h:(hQ v != v)
  ·have:=fin v (fe v)
   rw[h]at this;exact this
  ·exact bN
 unfold cK
 dsimp only
 cases ((((ByteArray.size x:Int)==0)||(decide ((ByteArray.size x:Int)>14))))with
 |true=>exact bN
 |false=>
  simp only[cond_false];refine EZ (Q:=fun r:Int × Bool=>di r.1) (fun r af=>?_) (fun c _=>?_)
  ·have:r=(0,false):=by
    refine US (Q:=fun r=>r=(0,false)) ?_ _ _ _ _ af
    intro i a r h;revert h
    cases ((decide ((aC x (i:Int))≥48))&&(decide ((aC x (i:Int))≤57)))
    ·simp only[cond_false]
     cases ((decide ((i:Int)>0))||((aC x (i:Int)) != 45))
     ·intro h;cases h
     ·intro h;cases h;rfl
    ·intro h;cases h
   rw[this];exact bN
  ·cases ((aC x (0:Int))==45)
   ·exact qt c
   ·exact qt _
theorem MP(z:Int):tt (IntKind.wrap .u8 z):=by
 have: ∃n:Nat,IntKind.wrap .u8 z=(n:Int)∧n<256:=by
  refine⟨(z%256).toNat,?_,by omega⟩
  simp[IntKind.wrap,IntKind.bits,IntKind.signed];omega
 obtain⟨n,e,h⟩:=this
 rw[e]
 exact EK h
theorem UX(x:ByteArray)(z:Int):tt (aC x z):=by
 obtain⟨n,e,h⟩:=qm x z
 rw[e]
 exact EK h
theorem rT{x:ByteArray}(h:a8 .eql x (⟨#[]⟩:ByteArray)=false):0<(x.size:Int):=by
 have h:bq x ⟨#[]⟩=false:=h
 rw[tB]at h
 rcases Nat.eq_zero_or_pos x.size with aU|aU
 ·exact absurd (ByteArray.ext (Array.eq_empty_of_size_eq_zero aU)) h
 ·omega
theorem vy{x:ByteArray}(h:a8 .neq x (⟨#[]⟩:ByteArray)=true):0<(x.size:Int):=by
 refine rT ?_
 have h:(!bq x ⟨#[]⟩)=true:=h
 show bq x ⟨#[]⟩=false
 simpa using h
theorem UY(x:ByteArray):Bi x:=by
 unfold Bi
 intro v1
 refine⟨fun h=>⟨Int.le_refl _,rT h⟩,?_⟩
 intro h
 rw[Bool.or_eq_false_iff]at h
 have ag:=rT h.1
 refine⟨⟨Int.le_refl _,ag⟩,fun _=>⟨⟨Int.le_refl _,ag⟩,⟨by decide,by omega⟩,UX _ _,fun _=>⟨Int.le_refl _,ag⟩⟩,fun _=>?_⟩
 intro aT bf
 have fc:bf=true→(2:Int)≤(x.size:Int):=fun h=>of_decide_eq_true h
 refine⟨fun h=>⟨by decide,by have:=fc h;omega⟩,?_⟩
 intro v10
 refine⟨fun h _=>⟨by decide,by have:=fc h;omega⟩,fun h=>⟨by decide,by have:=fc (Bool.and_eq_true _ _ ▸ h).1;omega⟩,fun _=>?_⟩
 intro eK
 have MQ:eK=false→(4:Int)≤(x.size:Int):=fun h=>by
  have h: ¬(x.size:Int)<4:=of_decide_eq_false h
  omega
 refine⟨fun h=>⟨by decide,by have:=MQ h;omega⟩,?_⟩
 intro c0
 have MR:c0=false→(4:Int)≤(x.size:Int):=fun h=>MQ ((Bool.or_eq_false_iff.1 h).1)
 refine⟨fun h=>⟨by decide,by have:=MR h;omega⟩,?_⟩
 intro ay
 have dG: ∀z,ay z:=by
  intro z
  have E0:(c0||decide (z<0))=false→(4:Int)≤(x.size:Int):=fun h=>MR ((Bool.or_eq_false_iff.1 h).1)
  refine⟨fun h=>⟨by decide,by have:=E0 h;omega⟩,fun _ h=>?_,fun _ h=>?_⟩
  ·have aS:=E0 ((Bool.or_eq_false_iff.1 h).1)
   exact⟨⟨by decide,by omega⟩,⟨by decide,by omega⟩,⟨by decide,by omega⟩,MP _⟩
  ·have aS:=E0 ((Bool.or_eq_false_iff.1 h).1)
   exact⟨⟨by decide,by omega⟩,⟨by decide,by omega⟩,⟨by decide,by omega⟩,MP _⟩
 exact⟨fun _=>dG _,fun _=>dG _⟩
theorem UZ(x:ByteArray):0≤(fI x).2∧(fI x).2≤(x.size:Int):=by
 have aU:(0:Int)≤0∧(0:Int)≤(x.size:Int):=by omega
 unfold fI
 dsimp only
 cases h:((a8 .eql x (⟨#[]⟩:ByteArray))||((aC x (0:Int))==34))with
 |true=>exact aU
 |false=>
  rw[Bool.or_eq_false_iff]at h
  have ag:=rT h.1
  simp only[cond_false]
  cases (aC x (0:Int) != 92)with
  |true=>
   simp only[cond_true]
   cases a8 .neq (lz (aC x 0)) (bk x none (some 1))
   ·exact⟨show(0:Int)≤1 by decide,show(1:Int)≤_ by omega⟩
   ·exact aU
  |false=>
   simp only[cond_false]
   cases ad:((decide ((x.size:Int)≥2))&&(((aC x (1:Int))==34)||((aC x (1:Int))==92)))with
   |true=>
    rw[Bool.and_eq_true]at ad
    have ad:(x.size:Int)≥2:=of_decide_eq_true ad.1
    exact⟨show(0:Int)≤2 by decide,show(2:Int)≤_ by omega⟩
   |false=>
    simp only[cond_false]
    cases aq:((decide ((x.size:Int)<4))||((aC x (1:Int)) != 120))with
    |true=>exact aU
    |false=>
     rw[Bool.or_eq_false_iff]at aq
     have aq: ¬(x.size:Int)<4:=of_decide_eq_false aq.1
     simp only[cond_eq_ite]
     repeat' split
     all_goals first
      |exact aU
      |exact⟨show(0:Int)≤4 by decide,show(4:Int)≤_ by omega⟩
theorem U0{x:ByteArray}(hx:bz x):Bj x:=by
 unfold bz at hx
 unfold Bj
 intro v1
 refine⟨fun h=>⟨Int.le_refl _,rT h⟩,?_⟩
 intro h
 rw[Bool.or_eq_false_iff]at h
 have ag:=rT h.1
 refine⟨fun d=>1≤d.1∧d.1≤(x.size:Int)∧(d.2.1.length:Int)+1≤d.1,fun d=>x.size+1-d.1.toNat,⟨by decide,by show(1:Int)≤_;omega,by decide⟩,?_,?_⟩
 ·show x.size+1-Int.toNat 1<18446744073709551616
  omega
 ·intro d0 hd
  obtain⟨d1,d2,d3⟩:=hd;intro v9;refine⟨fun h=>⟨by omega,of_decide_eq_true h⟩,fun h=>?_⟩
  have bB:d0.1<(x.size:Int):=of_decide_eq_true (Bool.and_eq_true _ _ ▸ h).1
  have bK:(bk x (some d0.1) none).size=x.size-d0.1.toNat:=by
   show(ByteArray.extract x d0.1.toNat x.size).size=_;rw[ByteArray.size_extract];omega
  obtain⟨hO,lA⟩:=UZ (bk x (some d0.1) none);rw[bK]at lA;refine⟨⟨by omega,by omega⟩,UY _,fun aU=>?_⟩
  have aU:(fI (bk x (some d0.1) none)).2≠0:=by simpa using aU
  intro ay
  have w:IntKind.wrap .i64 (d0.1+(fI (bk x (some d0.1) none)).2)=d0.1+(fI (bk x (some d0.1) none)).2:=c4 _ (by omega) (by omega)
  have dG: ∀b,ay b:=by
   intro b
   have ao: ∀v:Int,[v].length=1:=fun _=>rfl
   have tC: ∀v:Int,(List.append d0.2.1 [v]).length=d0.2.1.length+1:=by
    intro v;show(d0.2.1++[v]).length=_;rw[List.length_append];rfl
   refine⟨⟨?_,?_⟩,⟨?_,?_,?_⟩,?_⟩
   ·rw[ao];unfold maxLen;omega
   ·rw[ao];omega
   ·show 1≤IntKind.wrap .i64 (d0.1+(fI (bk x (some d0.1) none)).2)
    rw[w];omega
   ·show IntKind.wrap .i64 (d0.1+(fI (bk x (some d0.1) none)).2)≤_
    rw[w];omega
   ·show((List.append d0.2.1 [_]).length:Int)+1≤IntKind.wrap .i64 (d0.1+(fI (bk x (some d0.1) none)).2)
    rw[w,tC];omega
   ·show x.size+1-(IntKind.wrap .i64 (d0.1+(fI (bk x (some d0.1) none)).2)).toNat<x.size+1-d0.1.toNat
    rw[w];omega
  exact⟨fun _=>dG _,fun _=>dG _⟩
theorem U1{x:ByteArray}(hx:bz x):E1 x:=U0 hx
theorem U2(x:ByteArray):bz (qu x).1:=by
 unfold qu
 simp only[cond_eq_ite]
 repeat' split
 ·exact Nat.zero_le _
 ·exact Nat.zero_le _
 ·rename_i h
  simp only[decide_eq_true_eq]at h;show ByteArray.size _≤_;dsimp only;omega
theorem U3{x:ByteArray}(hx:bz x):xW x:=by
 unfold xW
 intro ay
 have dG: ∀a b c,di b→ay a b c:=fun a b c ae _=>Mw (v:=⟨a,b,c⟩) ae
 refine⟨fun _=>dG _ _ _ bN,fun _=>⟨fun _=>⟨fun _=>dG _ _ _ (mK (by decide) (by decide)),fun _=>dG _ _ _ bN⟩,fun _=>?_⟩⟩
 intro v5
 refine⟨fun h=>⟨Int.le_refl _,vy h⟩,fun h=>?_,fun _=>?_⟩
 ·have h:=vy (Bool.and_eq_true _ _ ▸ h).1
  exact⟨⟨by decide,by omega⟩,po _,dG _ _ _ (mO _)⟩
 ·intro v9
  exact⟨fun h=>⟨Int.le_refl _,vy h⟩,fun _=>⟨U1 hx,dG _ _ _ bN⟩,fun _=>⟨po _,dG _ _ _ (mO _)⟩⟩
theorem MS(x:ByteArray):ql (e7 x).1:=by
 have fin: ∀(a b:Int) (c w:ByteArray),di a→di b→bz c→ql (bif(a8 .eql x (⟨#[]⟩:ByteArray)||a8 .neq w x)then((⟨0,0,⟨#[]⟩⟩:bI),(4:Int))else(⟨a,b,c⟩,0)).1:=by
  intro a b c w aI ae hc
  cases (a8 .eql x (⟨#[]⟩:ByteArray)||a8 .neq w x)
  ·exact⟨aI,ae,hc⟩
  ·exact⟨bN,bN,Nat.zero_le _⟩
 have qt: ∀(a b:Int) (c:ByteArray),di a→di b→bz c→ql (bif a8 .eql x (⟨#[]⟩:ByteArray)then(bif(a8 .eql x (⟨#[]⟩:ByteArray)||a8 .neq (⟨#[]⟩:ByteArray) x)then((⟨0,0,⟨#[]⟩⟩:bI),(4:Int))else(⟨a,b,c⟩,0))else(bif(a8 .eql x (⟨#[]⟩:ByteArray)||a8 .neq (fT ⟨a,b,c⟩) x)then((⟨0,0,⟨#[]⟩⟩:bI),(4:Int))else(⟨a,b,c⟩,0))).1:=by
  intro a b c aI ae hc
  have aa:=fin a b c (⟨#[]⟩:ByteArray) aI ae hc
  have ad:=fin a b c (fT ⟨a,b,c⟩) aI ae hc
  simp only[cond_eq_ite];simp only[cond_eq_ite]at aa ad
  split
  ·exact aa
  ·exact ad
 have small: ∀k:Int, -10≤k→k≤10→di k:=fun k aa ad=>mK (by omega) (by omega)
 have e:bz (⟨#[]⟩:ByteArray):=Nat.zero_le _
 unfold e7
 dsimp only
 cases (a8 .eql x (⟨#[110,111,110,101]⟩:ByteArray))
 ·simp only[cond_false]
  cases ((a8 .eql x (⟨#[116,114,117,101]⟩:ByteArray))||(a8 .eql x (⟨#[102,97,108,115,101]⟩:ByteArray)))
  ·simp only[cond_false]
   cases ((a8 .neq x (⟨#[]⟩:ByteArray))&&((aC x (0:Int))==35))
   ·simp only[cond_false]
    cases ((a8 .neq x (⟨#[]⟩:ByteArray))&&((aC x (0:Int))==34))
    ·exact qt _ _ _ (small _ (by decide) (by decide)) (mO _) e
    ·exact qt _ _ _ (small _ (by decide) (by decide)) bN (U2 _)
   ·exact qt _ _ _ (small _ (by decide) (by decide)) (mO _) e
  ·simp only[cond_true]
   cases (a8 .eql x (⟨#[116,114,117,101]⟩:ByteArray))
   ·exact qt _ _ _ (small _ (by decide) (by decide)) bN e
   ·exact qt _ _ _ (small _ (by decide) (by decide)) (small _ (by decide) (by decide)) e
 ·exact qt _ _ _ bN bN e
end Go.aM
namespace Go.aM
open Go Go.ed
theorem MT(z:Int):xX z:=by
 unfold xX
 decide
theorem Bk(l:List Int)(v:Int):(List.append l [v]).length=l.length+1:=by
 show(l++[v]).length=_
 rw[List.length_append]
 rfl
theorem U4{x:ByteArray}(hx:bz x):xY x:=by
 unfold bz at hx
 unfold xY
 intro v1 h
 have h:(ba .rem .i64 (x.size:Int) 2 != 0)=false:=h
 have h:(x.size:Int).tmod 2=0:=by simpa[ba]using h
 have aL:ba .quo .i64 (x.size:Int) 2=((x.size/ 2:Nat):Int):=by
  show IntKind.wrap .i64 ((x.size:Int).tdiv 2)=_;rw[Int.tdiv_eq_ediv_of_nonneg (by omega),c4 _ (by omega) (by omega)]
  omega
 refine⟨?_,fun d=>0≤d.1∧d.1≤(x.size:Int)∧d.1%2=0∧(d.2.length:Int)≤d.1,fun d=>x.size-d.1.toNat,⟨Int.le_refl _,by show(0:Int)≤_;omega,rfl,Int.le_refl _⟩,?_,?_⟩
 ·show 0≤(0:Int)∧(0:Int)≤ba .quo .i64 (x.size:Int) 2∧ba .quo .i64 (x.size:Int) 2≤(maxLen:Int)∧(1:Int)*ba .quo .i64 (x.size:Int) 2≤281474976710656
  rw[aL];unfold maxLen;omega
 ·show x.size-Int.toNat 0<18446744073709551616
  omega
 ·intro d0 hd
  obtain⟨d1,d2,d3,d4⟩:=hd;intro bB
  have bB:d0.1<(x.size:Int):=of_decide_eq_true bB
  rw[Int.tmod_eq_emod_of_nonneg (by omega)]at h
  have cq:IntKind.wrap .i64 (d0.1+1)=d0.1+1:=c4 _ (by omega) (by omega)
  have cy:IntKind.wrap .i64 (d0.1+2)=d0.1+2:=c4 _ (by omega) (by omega)
  refine⟨⟨d1,bB⟩,?_,MT _,MT _,fun _=>⟨⟨?_,?_⟩,⟨?_,?_,?_,?_⟩,?_⟩⟩
  ·show 0≤IntKind.wrap .i64 (d0.1+1)∧IntKind.wrap .i64 (d0.1+1)<_
   rw[cq];omega
  ·show d0.2.length+1≤maxLen
   unfold maxLen;omega
  ·show(d0.2.length+1)*1≤_
   omega
  ·show 0≤IntKind.wrap .i64 (d0.1+2)
   rw[cy];omega
  ·show IntKind.wrap .i64 (d0.1+2)≤_
   rw[cy];omega
  ·show IntKind.wrap .i64 (d0.1+2)%2=0
   rw[cy];omega
  ·show((List.append d0.2 [_]).length:Int)≤IntKind.wrap .i64 (d0.1+2)
   rw[cy,Bk];omega
  ·show x.size-(IntKind.wrap .i64 (d0.1+2)).toNat<x.size-d0.1.toNat
   rw[cy];omega
theorem U5{x:ByteArray}(hx:bz x):(gr x).1.size≤x.size+1:=by
 unfold bz at hx
 unfold gr
 dsimp only
 cases ((ba .rem .i64 (x.size:Int) (2:Int)) != 0)with
 |true=>exact Nat.zero_le _
 |false=>
  simp only[cond_false];refine EZ (Q:=fun r:ByteArray × Int=>r.1.size≤x.size+1) (fun r af=>?_) (fun c hc=>?_)
  ·have:r=(⟨#[]⟩,4):=by
    refine MO (Q:=fun r=>r=(⟨#[]⟩,4)) ?_ _ _ _ af
    intro a r h;revert h;simp only[cond_eq_ite]
    repeat' split
    ·intro h;cases h;rfl
    ·intro h;cases h
    ·intro h;cases h
   rw[this];exact Nat.zero_le _
  ·have:0≤c.1∧c.1≤(x.size:Int)+1∧(c.2.length:Int)≤c.1:=by
    refine UT (I:=fun c:Int × List Int=>0≤c.1∧c.1≤(x.size:Int)+1∧(c.2.length:Int)≤c.1) ?_ _ _ _ ⟨Int.le_refl _,by show(0:Int)≤_;omega,Int.le_refl _⟩ hc
    intro a aI;obtain⟨bD,a2,a3⟩:=aI
    cases bB:decide (a.1<(x.size:Int))with
    |false=>
     simp only[cond_false];refine⟨fun aY h=>(by cases h),fun aY h=>?_⟩
     cases h;exact⟨bD,a2,a3⟩
    |true=>
     have bB:=of_decide_eq_true bB
     simp only[cond_true]
     have cy:IntKind.wrap .i64 (a.1+2)=a.1+2:=c4 _ (by omega) (by omega)
     rw[cy];simp only[cond_eq_ite]
     split
     ·exact⟨fun aY h=>(by cases h),fun aY h=>(by cases h)⟩
     ·refine⟨fun aY h=>?_,fun aY h=>(by cases h)⟩
      cases h;refine⟨?_,?_,?_⟩
      ·show 0≤a.1+2;omega
      ·show a.1+2≤_;omega
      ·show((List.append a.2 [_]).length:Int)≤a.1+2
       rw[Bk];omega
   show(bytesOf c.2).size≤_;rw[vc];omega
theorem bz.str{x:ByteArray}(h:bz x){a b:Option Int}:bz (bk x a b):=by
 unfold bz at h⊢
 have:=AW (b:=x) (a:=a) (c:=b)
 omega
theorem rU{x:ByteArray}(hx:bz x){v:Int}(h:(decide (v≥0))=true)(av:v<(x.size:Int)):er x.size none (some v)∧er x.size (some (IntKind.wrap .i64 (v+1))) none:=by
 unfold bz at hx
 have h:v≥0:=of_decide_eq_true h
 have w:IntKind.wrap .i64 (v+1)=v+1:=c4 _ (by omega) (by omega)
 rw[w]
 exact⟨⟨h,by omega⟩,⟨by omega,by omega⟩⟩
theorem Bl{x:ByteArray}(c:UInt8)(h:a8 .eql (⟨#[c]⟩:ByteArray) x=true):(0:Int)<(x.size:Int):=by
 have h:bq (⟨#[c]⟩:ByteArray) x=true:=h
 rw[xU]at h
 rw[←h]
 exact Int.zero_lt_one
theorem MU{x:ByteArray}(hx:bz x):tD x:=by
 unfold tD
 intro bV
 have dG: ∀a b c,bz b→bV a b c:=by
  intro a b c ae
  have fJ: ∀v:Int,v<(b.size:Int)→((decide (v≥0))=true→(er (ByteArray.size b) none (some v))∧(er (ByteArray.size b) (some (IntKind.wrap .i64 (v+(1:Int)))) none)∧ku a)∧((decide (v≥0))=false→ku a):=by
   intro v av;exact⟨fun h=>⟨(rU ae h av).1,(rU ae h av).2,po _⟩,fun _=>po _⟩
  exact⟨fun h=>fJ 0 (Bl _ h),fun _=>⟨by decide,fJ _ (rS _ _).2⟩⟩
 have fJ: ∀v:Int,v<(x.size:Int)→((decide (v≥0))=true→(er (ByteArray.size x) none (some v))∧(er (ByteArray.size x) (some (IntKind.wrap .i64 (v+(1:Int)))) none)∧bV (bk x none (some v)) (bk x (some (IntKind.wrap .i64 (v+(1:Int)))) none) true)∧((decide (v≥0))=false→bV x (⟨#[]⟩:ByteArray) false):=by
  intro v av;exact⟨fun h=>⟨(rU hx h av).1,(rU hx h av).2,dG _ _ true hx.str⟩,fun _=>dG _ _ false (Nat.zero_le _)⟩
 exact⟨fun h=>fJ 0 (Bl _ h),fun _=>⟨by decide,fJ _ (rS _ _).2⟩⟩
structure E2 (r:Int × ByteArray × ByteArray × Bool):Prop where
 d:di r.1
 c:bz r.2.1
 n:bz r.2.2.1
noncomputable def qv{α:Type}(c:UInt8)(x:ByteArray)(K:ByteArray→ByteArray→Bool→α):α:=
 bif a8 .eql (⟨#[c]⟩:ByteArray) x then(bif decide ((0:Int)≥0)then K (bk x none (some 0)) (bk x (some (IntKind.wrap .i64 ((0:Int)+(1:Int)))) none) true else K x (⟨#[]⟩:ByteArray) false)
 else(bif decide (eV x (aC (⟨#[c]⟩:ByteArray) 0)≥0)then K (bk x none (some (eV x (aC (⟨#[c]⟩:ByteArray) 0)))) (bk x (some (IntKind.wrap .i64 (eV x (aC (⟨#[c]⟩:ByteArray) 0)+(1:Int)))) none) true else K x (⟨#[]⟩:ByteArray) false)
theorem E3{α:Type}{Q:α→Prop}{c:UInt8}{x:ByteArray}{K:ByteArray→ByteArray→Bool→α}(hx:bz x)(h: ∀a b f,bz a→bz b→Q (K a b f)):Q (qv c x K):=by
 have e:bz (⟨#[]⟩:ByteArray):=Nat.zero_le _
 unfold qv
 simp only[cond_eq_ite]
 repeat' split
 ·exact h _ _ _ hx.str hx.str
 ·exact h _ _ _ hx e
 ·exact h _ _ _ hx.str hx.str
 ·exact h _ _ _ hx e
theorem E4(x:ByteArray):h2 x=qv 46 x fun a r f=>qv 46 r fun b c g=>((cK a).1,b,c,((f&&g)&&(cK a).2)):=by
 kernel_rfl
theorem MV{x:ByteArray}(hx:bz x):E2 (h2 x):=by
 rw[E4]
 exact E3 (Q:=E2) hx fun a r f _ af=>E3 (Q:=E2) af fun b c g ae hc=>⟨mO _,ae,hc⟩
theorem tE(r:Rd):di (cW r).1:=by
 unfold cW
 simp only[cond_eq_ite]
 repeat' split
 ·exact bN
 ·exact bN
 ·exact vx _
theorem xZ(r:Rd)(n:Int)(h:0≤n)(hn:n≤20000):bz (iF r n).1:=by
 have:=xT r n h
 unfold bz
 omega
theorem U6(r:Rd):ql (o8 r).1:=by
 have e:bz (⟨#[]⟩:ByteArray):=Nat.zero_le _
 have aa:ql (s4 r):=by
  unfold s4;simp only[cond_eq_ite]
  repeat' split
  ·exact⟨tE _,tE _,e⟩
  ·exact⟨tE _,bN,xZ _ _ (by decide) (by decide)⟩
  ·exact⟨tE _,bN,e⟩
 unfold o8
 simp only[cond_eq_ite]
 split
 ·exact⟨bN,bN,e⟩
 ·exact aa
theorem MW(s:ByteArray):ly (gC s).1:=by
 have e:bz (⟨#[]⟩:ByteArray):=Nat.zero_le _
 have bu:ly AN:=⟨bN,bN,bN,e,e,e,⟨bN,bN,e⟩,e⟩
 have fc:bz (kn s).1:=by
  unfold kn;exact xZ _ _ (by decide) (by decide)
 have hd:ly (eE s):=by
  unfold eE;generalize kn s=d8 at fc⊢;exact⟨tE _,tE _,tE _,xZ _ _ (by decide) (by decide),xZ _ _ (by decide) (by decide),xZ _ _ (by decide) (by decide),U6 _,fc⟩
 unfold gC
 repeat' split
 all_goals first|exact bu|exact hd
theorem tF{x:ByteArray}(hx:bz x):dC (gr x).1:=by
 have:=U5 hx
 unfold bz at hx
 unfold dC
 omega
set_option maxRecDepth 4000 in
theorem U7{k:Int}{x:ByteArray}(hx:bz x):Bm k x:=by
 unfold Bm
 intro bV
 have dG: ∀a b,bz a→bz b→bV a b:=by
  intro a b aI ae
  have fJ: ∀v:Bool,(v=true→(xW b)∧tD a)∧(v=false→((k==3)=true→tD x)∧((k==3)=false→((k==12)=true→(xY b)∧vk (gr b).1)∧((k==12)=false→
   ((k==8)=true→((k==8)=true→(ku a)∧ku b)∧((k==8)=false→(k==14)=false→ku x))∧((k==8)=false→((k==9)=true→(ku a)∧ku b)∧((k==9)=false→(k==14)=false→ku x))))):=by
   intro v;exact⟨fun _=>⟨U3 ae,MU aI⟩,fun _=>⟨fun _=>MU hx,fun _=>⟨fun _=>⟨U4 ae,Mf (tF ae)⟩,fun _=>⟨fun _=>⟨fun _=>⟨po _,po _⟩,fun _ _=>po _⟩,fun _=>⟨fun _=>⟨po _,po _⟩,fun _ _=>po _⟩⟩⟩⟩⟩
  exact⟨fun _=>fJ _,fun _=>fJ _⟩
 have fJ: ∀v:Int,v<(x.size:Int)→((decide (v≥0))=true→(er (ByteArray.size x) none (some v))∧(er (ByteArray.size x) (some (IntKind.wrap .i64 (v+(1:Int)))) none)∧bV (bk x none (some v)) (bk x (some (IntKind.wrap .i64 (v+(1:Int)))) none))∧((decide (v≥0))=false→bV x (⟨#[]⟩:ByteArray)):=by
  intro v av;exact⟨fun h=>⟨(rU hx h av).1,(rU hx h av).2,dG _ _ hx.str hx.str⟩,fun _=>dG _ _ hx (Nat.zero_le _)⟩
 exact⟨fun h=>fJ 0 (Bl _ h),fun _=>⟨by decide,fJ _ (rS _ _).2⟩⟩
noncomputable def h3(k:Int)(x a b:ByteArray):aK × Bool:=
 bif((k==2)||(k==13))then((⟨k,0,0,⟨(h2 a).1,(h2 a).2.1,(h2 a).2.2.1⟩,⟨(e7 b).1.kind,(e7 b).1.n,(e7 b).1.s⟩,⟨0,⟨#[]⟩,⟨#[]⟩⟩,⟨⟨#[]⟩,⟨0,0,⟨0,⟨#[]⟩,⟨#[]⟩⟩,⟨#[]⟩,⟨0,0,⟨#[]⟩⟩,⟨#[]⟩⟩⟩⟩:aK),((h2 a).2.2.2&&((e7 b).2==0)))
 else bif(k==3)then((⟨k,0,0,⟨0,⟨#[]⟩,⟨#[]⟩⟩,⟨0,0,⟨#[]⟩⟩,⟨(h2 x).1,(h2 x).2.1,(h2 x).2.2.1⟩,⟨⟨#[]⟩,⟨0,0,⟨0,⟨#[]⟩,⟨#[]⟩⟩,⟨#[]⟩,⟨0,0,⟨#[]⟩⟩,⟨#[]⟩⟩⟩⟩:aK),(h2 x).2.2.2)
 else bif(k==12)then((⟨k,0,0,⟨0,⟨#[]⟩,⟨#[]⟩⟩,⟨0,0,⟨#[]⟩⟩,⟨0,⟨#[]⟩,⟨#[]⟩⟩,⟨a,(hC (gr b).1).1⟩⟩:aK),(((gr b).2==0)&&((hC (gr b).1).2==0)))
 else bif((k==8)||(k==9))then((⟨k,(cK a).1,(cK b).1,⟨0,⟨#[]⟩,⟨#[]⟩⟩,⟨0,0,⟨#[]⟩⟩,⟨0,⟨#[]⟩,⟨#[]⟩⟩,⟨⟨#[]⟩,⟨0,0,⟨0,⟨#[]⟩,⟨#[]⟩⟩,⟨#[]⟩,⟨0,0,⟨#[]⟩⟩,⟨#[]⟩⟩⟩⟩:aK),((cK a).2&&(cK b).2))
 else bif(k==14)then((⟨k,0,0,⟨0,⟨#[]⟩,⟨#[]⟩⟩,⟨0,0,⟨#[]⟩⟩,⟨0,⟨#[]⟩,⟨#[]⟩⟩,⟨⟨#[]⟩,⟨0,0,⟨0,⟨#[]⟩,⟨#[]⟩⟩,⟨#[]⟩,⟨0,0,⟨#[]⟩⟩,⟨#[]⟩⟩⟩⟩:aK),true)
 else((⟨k,(cK x).1,0,⟨0,⟨#[]⟩,⟨#[]⟩⟩,⟨0,0,⟨#[]⟩⟩,⟨0,⟨#[]⟩,⟨#[]⟩⟩,⟨⟨#[]⟩,⟨0,0,⟨0,⟨#[]⟩,⟨#[]⟩⟩,⟨#[]⟩,⟨0,0,⟨#[]⟩⟩,⟨#[]⟩⟩⟩⟩:aK),(cK x).2)
theorem MX{k:Int}{x a b:ByteArray}(aj:di k)(hx:bz x)(aI:bz a)(ae:bz b):hM (h3 k x a b).1:=by
 have e:bz (⟨#[]⟩:ByteArray):=Nat.zero_le _
 have l2:ly ⟨0,0,⟨0,⟨#[]⟩,⟨#[]⟩⟩,⟨#[]⟩,⟨0,0,⟨#[]⟩⟩,⟨#[]⟩⟩:=⟨bN,bN,bN,e,e,e,⟨bN,bN,e⟩,e⟩
 have Bn:=MV aI
 have dD:=MV hx
 have kk:=MS b
 have vz:=mO a
 have qw:=mO b
 have tG:=mO x
 have q:ly (hC (gr b).1).1:=by
  rw[vj (tF ae)];exact MW _
 unfold h3
 generalize hC (gr b).1=Q at q⊢
 generalize h2 a=A at Bn⊢
 generalize h2 x=X at dD⊢
 generalize e7 b=V at kk⊢
 generalize cK a=U8 at vz⊢
 generalize cK b=U9 at qw⊢
 generalize cK x=zdC at tG⊢
 generalize gr b=H
 cases ((k==2)||(k==13))
 ·cases (k==3)
  ·cases (k==12)
   ·cases ((k==8)||(k==9))
    ·cases (k==14)
     ·exact⟨aj,tG,bN,bN,e,e,⟨bN,bN,e⟩,bN,e,e,e,l2⟩
     ·exact⟨aj,bN,bN,bN,e,e,⟨bN,bN,e⟩,bN,e,e,e,l2⟩
    ·exact⟨aj,vz,qw,bN,e,e,⟨bN,bN,e⟩,bN,e,e,e,l2⟩
   ·exact⟨aj,bN,bN,bN,e,e,⟨bN,bN,e⟩,bN,e,e,aI,q⟩
  ·exact⟨aj,bN,bN,bN,e,e,⟨bN,bN,e⟩,dD.d,dD.c,dD.n,e,l2⟩
 ·exact⟨aj,bN,bN,Bn.d,Bn.c,Bn.n,⟨kk.k,kk.n,kk.s⟩,bN,e,e,e,l2⟩
theorem MY(k:Int)(x:ByteArray):mP k x=qv 32 x fun a b _=>h3 k x a b:=by
 unfold mP qv h3
 dsimp only
 generalize e7=f1
 generalize h2=f2
 generalize gr=f3
 generalize cK=f4
 generalize hC=f5
 cases a8 .eql (⟨#[32]⟩:ByteArray) x
 ·simp only[cond_false]
  cases decide (eV x (aC (⟨#[32]⟩:ByteArray) 0)≥0)
  ·simp only[cond_false]
   cases (k==2)
   ·cases (k==13)
    ·cases (k==3)
     ·cases (k==12)
      ·cases (k==8)
       ·cases (k==9)
        ·cases (k==14)<;>rfl
        ·rfl
       ·rfl
      ·rfl
     ·rfl
    ·rfl
   ·rfl
  ·simp only[cond_true]
   cases (k==2)
   ·cases (k==13)
    ·cases (k==3)
     ·cases (k==12)
      ·cases (k==8)
       ·cases (k==9)
        ·cases (k==14)<;>rfl
        ·rfl
       ·rfl
      ·rfl
     ·rfl
    ·rfl
   ·rfl
 ·simp only[cond_true]
  cases decide ((0:Int)≥0)
  ·simp only[cond_false]
   cases (k==2)
   ·cases (k==13)
    ·cases (k==3)
     ·cases (k==12)
      ·cases (k==8)
       ·cases (k==9)
        ·cases (k==14)<;>rfl
        ·rfl
       ·rfl
      ·rfl
     ·rfl
    ·rfl
   ·rfl
  ·simp only[cond_true]
   cases (k==2)
   ·cases (k==13)
    ·cases (k==3)
     ·cases (k==12)
      ·cases (k==8)
       ·cases (k==9)
        ·cases (k==14)<;>rfl
        ·rfl
       ·rfl
      ·rfl
     ·rfl
    ·rfl
   ·rfl
theorem Va{k:Int}{x:ByteArray}(aj:di k)(hx:bz x):hM (mP k x).1:=by
 rw[MY]
 exact E3 (Q:=fun r:aK × Bool=>hM r.1) hx fun a b _ aI ae=>MX aj hx aI ae
end Go.aM
namespace Go.aM
open Go Go.ed
theorem MZ{x:ByteArray}(hx:bz x):x1 x:=by
 unfold x1
 intro bV
 have dG: ∀a b,bz b→bV a b:=by
  intro a b ae;exact⟨fun _ _=>True,trivial,fun i d _ _=>⟨fun _=>trivial,fun _=>⟨U7 ae,Bf (Va (vx _) ae),fun _=>trivial⟩⟩⟩
 have fJ: ∀v:Int,v<(x.size:Int)→((decide (v≥0))=true→(er (ByteArray.size x) none (some v))∧(er (ByteArray.size x) (some (IntKind.wrap .i64 (v+(1:Int)))) none)∧bV (bk x none (some v)) (bk x (some (IntKind.wrap .i64 (v+(1:Int)))) none))∧((decide (v≥0))=false→bV x (⟨#[]⟩:ByteArray)):=by
  intro v av;exact⟨fun h=>⟨(rU hx h av).1,(rU hx h av).2,dG _ _ hx.str⟩,fun _=>dG _ _ (Nat.zero_le _)⟩
 exact⟨fun h=>fJ 0 (Bl _ h),fun _=>⟨by decide,fJ _ (rS _ _).2⟩⟩
theorem Bo{x:ByteArray}{v:Int}:((bk x (some v) none).size:Int)=(x.size-v.toNat:Nat):=by
 show((ByteArray.extract x v.toNat x.size).size:Int)=_
 rw[ByteArray.size_extract]
 omega
def E5(n:Nat)(d:Int × ByteArray × Bool × List aK × Bool × Int):Nat:=bif d.2.2.1 then(bif d.2.2.2.2.1 then 1 else 2+(n-d.2.2.2.2.2.toNat))else 0
structure E6 (x:ByteArray) (d:Int × ByteArray × Bool × List aK × Bool × Int):Prop where
 line:bz d.2.1
 pos:d.2.2.2.2.1=false→0≤d.2.2.2.2.2∧d.2.2.2.2.2≤(x.size:Int)
 cnt:0≤d.1∧d.1+(E5 x.size d:Int)≤(x.size:Int)+3
 len:(d.2.2.2.1.length:Int)≤d.1
theorem Bp{x line:ByteArray}{cnt pos:Int}{ok done:Bool}{al:List aK}(aa:bz line)(ad:done=false→0≤pos∧pos≤(x.size:Int))(aq:0≤cnt)(aS:cnt+((bif ok then(bif done then 1 else 2+(x.size-pos.toNat))else 0:Nat):Int)≤(x.size:Int)+3)(bC:(al.length:Int)≤cnt):
 E6 x (cnt,line,ok,al,done,pos):=⟨aa,ad,⟨aq,aS⟩,bC⟩
theorem Lx(x:ByteArray):x2 x:=by
 unfold x2
 intro ag
 have ag: ¬(x.size:Int)>1048576:=of_decide_eq_false ag
 have hx:bz x:=by unfold bz;omega
 intro ay
 have dG: ∀(l:ByteArray) (b:Bool) (v:Int),bz l→(b=false→0≤v∧v≤(x.size:Int))→ay l b v:=by
  intro l b v ao av;refine⟨E6 x,E5 x.size,Bp ao av (Int.le_refl _) ?_ (Int.le_refl _),?_,?_⟩
  ·show(0:Int)+((bif b then 1 else 2+(x.size-v.toNat):Nat):Int)≤_
   cases b<;>simp only[cond_true,cond_false]<;>omega
  ·show(bif b then 1 else 2+(x.size-v.toNat):Nat)<18446744073709551616
   cases b<;>simp only[cond_true,cond_false]<;>omega
  ·intro d0 hd kX
   obtain⟨cnt,line,ok,tH,done,pos⟩:=d0
   have kX:ok=true:=kX
   subst kX
   have g1:bz line:=hd.line
   have g2:done=false→0≤pos∧pos≤(x.size:Int):=hd.pos
   have g3:0≤cnt:=hd.cnt.1
   have g4:cnt+((bif done then 1 else 2+(x.size-pos.toNat):Nat):Int)≤(x.size:Int)+3:=hd.cnt.2
   have g5:(tH.length:Int)≤cnt:=hd.len
   clear hd
   have hc:cnt≤(x.size:Int)+2:=by
    cases done<;>simp only[cond_true,cond_false]at g4<;>omega
   have cq:IntKind.wrap .i64 (cnt+1)=cnt+1:=c4 _ (by omega) (by omega)
   intro bV
   have rR: ∀(k:Int) (al:List aK),k=cnt+1→(al.length:Int)≤cnt+1→bV k al:=by
    intro k al aj ao;subst aj
    cases done with
    |true=>
     have g4:cnt+((1:Nat):Int)≤(x.size:Int)+3:=g4
     exact⟨fun _=>⟨Bp (Nat.zero_le _) (fun h=>(by cases h)) (by omega) (by show cnt+1+((0:Nat):Int)≤_;omega) ao,show 0<1 by decide⟩,fun h=>(by cases h)⟩
    |false=>
     obtain⟨cQ,dE⟩:=g2 rfl
     have g4:cnt+((2+(x.size-pos.toNat):Nat):Int)≤(x.size:Int)+3:=g4
     have af:=rS (bk x (some pos) none) 10
     rw[Bo]at af;refine⟨fun h=>(by cases h),fun _=>⟨⟨cQ,dE⟩,fun _=>⟨⟨cQ,dE⟩,?_⟩,fun hn=>?_⟩⟩
     ·exact⟨Bp (line:=bk x (some pos) none) hx.str (fun h=>(by cases h)) (by omega) (by show cnt+1+((1:Nat):Int)≤_;omega) ao,show 1<2+(x.size-pos.toNat)by omega⟩
     ·have hn: ¬eV (bk x (some pos) none) 10<0:=of_decide_eq_false hn
      have e:jo (bk x (some pos) none) 10=eV (bk x (some pos) none) 10:=rfl
      show er x.size (some pos) (some (IntKind.wrap .i64 (pos+jo (bk x (some pos) none) 10)))∧E6 x (cnt+1,bk x (some pos) (some (IntKind.wrap .i64 (pos+jo (bk x (some pos) none) 10))),true,al,false,IntKind.wrap .i64 (pos+IntKind.wrap .i64 (jo (bk x (some pos) none) 10+1)))∧E5 x.size (cnt+1,bk x (some pos) (some (IntKind.wrap .i64 (pos+jo (bk x (some pos) none) 10))),true,al,false,IntKind.wrap .i64 (pos+IntKind.wrap .i64 (jo (bk x (some pos) none) 10+1)))<2+(x.size-pos.toNat);rw[e];generalize eV (bk x (some pos) none) 10=q at af hn⊢
      have cy:IntKind.wrap .i64 (pos+q)=pos+q:=c4 _ (by omega) (by omega)
      have im:IntKind.wrap .i64 (q+1)=q+1:=c4 _ (by omega) (by omega)
      have mQ:IntKind.wrap .i64 (pos+(q+1))=pos+(q+1):=c4 _ (by omega) (by omega)
      rw[cy,im,mQ];exact⟨⟨cQ,by omega,by omega⟩,Bp (line:=bk x (some pos) (some (pos+q))) hx.str (fun _=>⟨by omega,by omega⟩) (by omega) (by show cnt+1+((2+(x.size-(pos+(q+1)).toNat):Nat):Int)≤_;omega) ao,show 2+(x.size-(pos+(q+1)).toNat)<2+(x.size-pos.toNat)by omega⟩
   refine⟨fun h=>⟨Int.le_refl _,rT h⟩,fun _=>rR _ tH cq (show(tH.length:Int)≤cnt+1 by omega),fun _=>⟨MZ g1,fun _=>⟨⟨?_,?_⟩,rR _ _ cq ?_⟩⟩⟩
   ·show tH.length+1≤maxLen
    unfold maxLen;omega
   ·show(tH.length+1)*272≤_
    omega
   ·show((tH++[(m16 line).1]).length:Int)≤cnt+1
    rw[List.length_append];show((tH.length+1:Nat):Int)≤cnt+1;omega
 have af:=rS (bk x (some 0) none) 10
 rw[Bo]at af
 refine⟨⟨Int.le_refl _,by show(0:Int)≤_;omega⟩,fun _=>⟨⟨Int.le_refl _,by show(0:Int)≤_;omega⟩,dG _ _ _ hx.str (fun h=>by cases h)⟩,fun hn=>?_⟩
 have hn: ¬eV (bk x (some 0) none) 10<0:=of_decide_eq_false hn
 have e:jo (bk x (some 0) none) 10=eV (bk x (some 0) none) 10:=rfl
 show er x.size (some (0:Int)) (some (IntKind.wrap .i64 ((0:Int)+jo (bk x (some 0) none) 10)))∧ay (bk x (some 0) (some (IntKind.wrap .i64 ((0:Int)+jo (bk x (some 0) none) 10)))) false (IntKind.wrap .i64 ((0:Int)+IntKind.wrap .i64 (jo (bk x (some 0) none) 10+1)))
 rw[e]
 generalize eV (bk x (some 0) none) 10=q at af hn⊢
 have cy:IntKind.wrap .i64 (0+q)=q:=by rw[c4 _ (by omega) (by omega)];omega
 have im:IntKind.wrap .i64 (q+1)=q+1:=c4 _ (by omega) (by omega)
 have mQ:IntKind.wrap .i64 (0+(q+1))=q+1:=by rw[c4 _ (by omega) (by omega)];omega
 rw[cy,im,mQ]
 exact⟨⟨Int.le_refl _,by omega,by omega⟩,dG _ _ _ hx.str (fun _=>⟨by omega,by omega⟩)⟩
theorem E7{x:ByteArray}(h:x.size≤1000):bz x:=by unfold bz;omega
theorem Lv:x3:=by
 have e:bz (⟨#[]⟩:ByteArray):=Nat.zero_le _
 have s: ∀k:Int, -10≤k→k≤20→di k:=fun k aa ad=>mK (by omega) (by omega)
 have l2:ly ⟨0,0,⟨0,⟨#[]⟩,⟨#[]⟩⟩,⟨#[]⟩,⟨0,0,⟨#[]⟩⟩,⟨#[]⟩⟩:=⟨bN,bN,bN,e,e,e,⟨bN,bN,e⟩,e⟩
 have ao: ∀i:Nat,(List.getD ([⟨#[116,105,99,107,32,48,53]⟩,⟨#[116,105,99,107]⟩,⟨#[84,105,99,107,32,53]⟩,⟨#[115,101,110,115,101,32,49,46,118,97,108,118,101,46,111,112,101,110,32,110,111,110,101]⟩]:List ByteArray) i (dJ .str)).size≤1000:=by
  intro i
  match i with
  |0=>decide
  |1=>decide
  |2=>decide
  |3=>decide
  |_+4=>exact Nat.zero_le _
 unfold x3
 refine⟨Bf ⟨s _ (by decide) (by decide),bN,bN,s _ (by decide) (by decide),E7 (by decide),E7 (by decide),⟨s _ (by decide) (by decide),s _ (by decide) (by decide),e⟩,bN,e,e,e,l2⟩,fun _=>⟨Bf ⟨s _ (by decide) (by decide),s _ (by decide) (by decide),bN,bN,e,e,⟨bN,bN,e⟩,bN,e,e,e,l2⟩,fun _=>⟨fun _ _=>True,trivial,fun i d _ _=>⟨MZ (E7 (ao _)),fun _=>trivial⟩,fun _ _=>Lx _⟩⟩⟩
theorem Tz:m15=true:=by kernel_rfl
end Go.aM
