/- Hex; script.Print and the reference's. Conditions: none. -/
import Derived.Test.YtmkpmgfieagphaaGreatDoorQLf
namespace Go.aL
open Go Go.ei
theorem L9: ∀n:Nat,n<256→(0≤aZ .shr .u8 (n:Int) 4∧aZ .shr .u8 (n:Int) 4<16)∧(0≤aZ .and .u8 (n:Int) 15∧aZ .and .u8 (n:Int) 15<16)∧(0≤aZ .quo .u8 (n:Int) 16∧aZ .quo .u8 (n:Int) 16<16)∧(0≤aZ .rem .u8 (n:Int) 16∧aZ .rem .u8 (n:Int) 16<16):=by decide+kernel
def vh(c:Int):List Int:=[aC (⟨#[48,49,50,51,52,53,54,55,56,57,97,98,99,100,101,102]⟩:ByteArray) (aZ .quo .u8 c 16),aC (⟨#[48,49,50,51,52,53,54,55,56,57,97,98,99,100,101,102]⟩:ByteArray) (aZ .rem .u8 c 16)]
def AT:List Int:=[48,49,50,51,52,53,54,55,56,57,97,98,99,100,101,102]
theorem T2: ∀n:Nat,n<256→[hD AT (Int.toNat (aZ .shr .u8 (n:Int) 4)),hD AT (Int.toNat (aZ .and .u8 (n:Int) 15))]=vh (n:Int):=by decide+kernel
def tk(x:ByteArray):ByteArray:=bytesOf (n7 (fun i=>vh (aC x (i:Int))) 0 x.size)
theorem Ma(x:ByteArray):tl x=tk x:=by
 have:tl x=Sum.elim (fun r=>r) (fun bj=>bytesOf bj) (bV (fun(i:Nat) (aA:List Int)=>(Step.bx (List.append aA [hD AT (Int.toNat (aZ .shr .u8 (aC x (i:Int)) 4)),hD AT (Int.toNat (aZ .and .u8 (aC x (i:Int)) 15))]):Step ByteArray (List Int))) 0 x.size []):=by kernel_rfl
 rw[this,xK (f:=fun i=>vh (aC x (i:Int))) x.size 0 [] (fun i v _=>?_)]
 ·rfl
 ·obtain⟨n,hn,h⟩:=qi x (i:Int)
  rw[hn,T2 n h];rfl
theorem Mb(x:ByteArray):rK x=tk x:=by
 unfold rK tk
 dsimp only
 rw[Int.toNat_natCast]
 show Sum.elim _ _ (bV (fun(i:Nat) (aA:List Int)=>(Step.bx (aA++vh (aC x (i:Int))):Step ByteArray (List Int))) 0 x.size [])=_
 rw[xK (f:=fun i=>vh (aC x (i:Int))) x.size 0 [] (fun i v _=>rfl)]
 rfl
theorem Ex(x:ByteArray):(tk x).size≤2*x.size:=by
 unfold tk
 rw[u2]
 exact Ew (f:=fun i=>vh (aC x (i:Int))) (c:=2) x.size 0 (fun _=>Nat.le_refl _)
theorem Mc{d l:List Int}{k:Nat}(hd:d.length≤2*k)(ao:l.length≤2)(aj:k<1000001):(List.length d+List.length l≤maxLen∧(List.length d+List.length l)*1≤140737488355328)∧(List.append d l).length≤2*(k+1):=by
 refine⟨⟨by unfold maxLen;omega,by omega⟩,?_⟩
 show(d++l).length≤_
 rw[List.length_append]
 omega
theorem T3{x:ByteArray}(h:x.size≤1000000):Ey x:=by
 refine⟨by decide,by decide,by decide,by decide,by decide,by decide,by decide,by decide,by decide,by decide,by decide,by decide,by decide,by decide,by decide,by decide,?_,⟨by omega,by omega⟩,fun i d=>d.length≤2*i,Nat.zero_le _,fun i d hi hd=>?_⟩
 ·rw[dw _ (by omega) (by omega)]
  unfold maxLen;omega
 ·have hi:i<x.size:=by rwa[Int.toNat_natCast]at hi
  obtain⟨n,hn,ad⟩:=qi x (i:Int);obtain⟨gj,fy,_,_⟩:=L9 n ad;rw[hn];exact⟨gj,gj,fy,fy,Mc hd (Nat.le_refl _) (by omega)⟩
theorem T4{x:ByteArray}(h:x.size≤1000000):AU x:=by
 refine⟨⟨by omega,by omega⟩,fun i d=>d.length≤2*i,Nat.zero_le _,fun i d hi hd=>?_⟩
 have hi:i<x.size:=by rwa[Int.toNat_natCast]at hi
 obtain⟨n,hn,ad⟩:=qi x (i:Int)
 obtain⟨_,_,gj,fy⟩:=L9 n ad
 rw[hn]
 exact⟨gj,fy,Mc hd (Nat.le_refl _) (by omega)⟩
theorem AV(k:Int):k=2∨k=13∨k=3∨k=12∨k=8∨k=9∨k=14∨k=11∨((k==2)=false∧(k==13)=false∧(k==3)=false∧(k==12)=false∧(k==8)=false∧(k==9)=false∧(k==14)=false∧(k==11)=false):=by
 simp only[beq_eq_false_iff_ne]
 omega
theorem T5(a:bf):xL a=qk a:=by
 obtain⟨k,n,m,key,value,event,asked⟩:=a
 rcases AV k with h|h|h|h|h|h|h|h|⟨aa,ae,aq,aT,bD,cA,dx,e5⟩
 ·subst h;rfl
 ·subst h;rfl
 ·subst h;rfl
 ·subst h;rfl
 ·subst h;rfl
 ·subst h;rfl
 ·subst h;rfl
 ·subst h;rfl
 ·unfold xL qk
  simp only[aa,ae,aq,aT,bD,cA,dx,e5,cond_false]
theorem tm{α:Type}{c:Bool}{a b d:α}(h:b=d):(bif c then a else b)=(bif c then a else d):=by rw[h]
def de(lo n m:Int):Bool:=(((decide (n<lo))||(decide (n>1099511627776)))||(decide (m<0)))||(decide (m>1099511627776))
def hE(d:Int):Bool:=(decide (d<1))||(decide (d>250))
theorem Ez(d:Int)(c n:ByteArray):jB d c n=bif hE d then(⟨#[]⟩,2)else bif(!(valid c)|| !(valid n))then(⟨#[]⟩,10)else(hg d c n,0):=by
 unfold jB
 simp only[TK]
 refine tm ?_
 cases valid c<;>cases valid n<;>rfl
noncomputable def hZ(k:Int):ByteArray:=List.getD ql (Int.toNat (IntKind.wrap .i64 (k-1))) (fJ .str)
theorem Md(k:Int)(h:((decide (k<1))||(decide (k>16)))=false):hD ([⟨#[116,105,99,107]⟩,⟨#[115,101,110,115,101]⟩,⟨#[101,118,101,110,116]⟩,⟨#[110,111,105,115,101]⟩,⟨#[113,117,105,101,116]⟩,⟨#[111,102,102]⟩,⟨#[111,110]⟩,⟨#[99,117,116]⟩,⟨#[106,111,105,110]⟩,⟨#[99,114,97,115,104]⟩,⟨#[99,108,111,99,107]⟩,⟨#[97,115,107]⟩,⟨#[101,110,101,114,103,121]⟩,⟨#[109,111,118,101]⟩,⟨#[108,111,115,101]⟩,⟨#[116,119,105,99,101]⟩]:List ByteArray) (Int.toNat (IntKind.wrap .i64 (k-1)))=hZ k:=by
 simp only[Bool.or_eq_false_iff,decide_eq_false_iff_not]at h
 have:k=1∨k=2∨k=3∨k=4∨k=5∨k=6∨k=7∨k=8∨k=9∨k=10∨k=11∨k=12∨k=13∨k=14∨k=15∨k=16:=by omega
 rcases this with rfl|rfl|rfl|rfl|rfl|rfl|rfl|rfl|rfl|rfl|rfl|rfl|rfl|rfl|rfl|rfl<;>rfl
def h0(x:jC)(d:dD × Int):Bool:=
 (d.2 != 0)|| !(bif d.1.kind==x.request.kind then bif d.1.cW==x.request.cW then bif d.1.key.dev==x.request.key.dev then bif bn d.1.key.bm x.request.key.bm then bif bn d.1.key.attr x.request.key.attr then bif bn d.1.name x.request.name then bif d.1.value.kind==x.request.value.kind then bif d.1.value.n==x.request.value.n then bif bn d.1.value.s x.request.value.s then bn d.1.text x.request.text else false else false else false else false else false else false else false else false else false)
noncomputable def Me(x:jC):Bool:=h0 x (gy (eZ x.request))|| !(seen x.token)
noncomputable def n8(a:bf):ByteArray × Int:=
 bif(a.kind==2)||(a.kind==13)then
  bif de 0 a.n a.m then(⟨#[]⟩,2)else bif hE a.key.dev then(⟨#[]⟩,2)else bif(!(valid a.key.bm)|| !(valid a.key.attr))then(⟨#[]⟩,10)else bif(eP a.value != 0)then(⟨#[]⟩,eP a.value)else bif(a.value.kind==0)then(⟨#[]⟩,4)else
   (ByteArray.append (ByteArray.append (ByteArray.append (ByteArray.append (hZ a.kind) ⟨#[32]⟩) (hg a.key.dev a.key.bm a.key.attr)) ⟨#[32]⟩) (fO a.value),0)
 else bif(a.kind==3)then
  bif de 0 a.n a.m then(⟨#[]⟩,2)else bif hE a.event.dev then(⟨#[]⟩,2)else bif(!(valid a.event.bm)|| !(valid a.event.name))then(⟨#[]⟩,10)else
   (ByteArray.append (ByteArray.append (hZ a.kind) ⟨#[32]⟩) (hg a.event.dev a.event.bm a.event.name),0)
 else bif(a.kind==12)then
  bif de 0 a.n a.m then(⟨#[]⟩,2)else bif Me a.asked then(⟨#[]⟩,4)else
   (ByteArray.append (ByteArray.append (ByteArray.append (ByteArray.append (hZ a.kind) ⟨#[32]⟩) a.asked.token) ⟨#[32]⟩) (tk (eZ a.asked.request)),0)
 else bif(a.kind==8)||(a.kind==9)then
  bif de 0 a.n a.m then(⟨#[]⟩,2)else(ByteArray.append (ByteArray.append (ByteArray.append (ByteArray.append (hZ a.kind) ⟨#[32]⟩) (e6 a.n)) ⟨#[32]⟩) (e6 a.m),0)
 else bif(a.kind==14)then
  bif de 0 a.n a.m then(⟨#[]⟩,2)else(hZ a.kind,0)
 else
  bif de (bif(a.kind==11)then -1 else 0) a.n a.m then(⟨#[]⟩,2)else(ByteArray.append (ByteArray.append (hZ a.kind) ⟨#[32]⟩) (e6 a.n),0)
noncomputable def AW(v4 x0:bf):Bool:=!(bif v4.kind==x0.kind then bif v4.n==x0.n then bif v4.m==x0.m then bif v4.key.dev==x0.key.dev then bif bn v4.key.bm x0.key.bm then bif bn v4.key.attr x0.key.attr then bif v4.value.kind==x0.value.kind then bif v4.value.n==x0.value.n then bif bn v4.value.s x0.value.s then bif v4.event.dev==x0.event.dev then bif bn v4.event.bm x0.event.bm then bif bn v4.event.name x0.event.name then bif bn v4.asked.token x0.asked.token then bif v4.asked.request.kind==x0.asked.request.kind then bif v4.asked.request.cW==x0.asked.request.cW then bif v4.asked.request.key.dev==x0.asked.request.key.dev then bif bn v4.asked.request.key.bm x0.asked.request.key.bm then bif bn v4.asked.request.key.attr x0.asked.request.key.attr then bif bn v4.asked.request.name x0.asked.request.name then bif v4.asked.request.value.kind==x0.asked.request.value.kind then bif v4.asked.request.value.n==x0.asked.request.value.n then bif bn v4.asked.request.value.s x0.asked.request.value.s then bn v4.asked.request.text x0.asked.request.text else false else false else false else false else false else false else false else false else false else false else false else false else false else false else false else false else false else false else false else false else false else false)
noncomputable def jD(a:bf):ByteArray × Int:=
 bif((decide (a.kind<1))||(decide (a.kind>16)))then(⟨#[]⟩,7)else bif AW (qk a) a then(⟨#[]⟩,1)else n8 a
structure nq (a:bf):Prop where
 k:df a.kind
 n:df a.n
 m:df a.m
 Mf:df a.key.dev
 AX:bq a.key.bm
 AY:bq a.key.attr
 v:qh a.value
 Mg:df a.event.dev
 u3:bq a.event.bm
 vi:bq a.event.name
 t:bq a.asked.token
 q:lu a.asked.request
theorem T6{a:bf}(aK:nq a):m13 a=jD a:=by
 obtain⟨k,n,m,key,value,event,asked⟩:=a
 unfold m13 jD
 cases aj:((decide (k<1))||(decide (k>16)))with
 |true=>rfl
 |false=>
  simp only[cond_false]
  have hw:=Md k aj
  show(bif AW (qk ⟨k,n,m,key,value,event,asked⟩) ⟨k,n,m,key,value,event,asked⟩then _ else _)=_
  refine tm ?_
  rw[hw];clear aj hw
  have aG:asked.token.size<9223372036854775808:=by have:=aK.t;unfold bq at this;simp only at this;omega
  have vj:dy (eZ asked.request):=xJ aK.q
  have tn: ∀k,k=2∨k=13→jE ⟨k,n,m,key,value,event,asked⟩=(bif de 0 n m then 2 else bif hE key.dev then 2 else 0)∧
   pf ⟨k,n,m,key,value,event,asked⟩=(bif !(kn key.bm)then(bif(!(kn key.bm)|| !false)then 10 else bif(eP value != 0)then eP value else bif(value.kind==0)then 4 else 0)else(bif(!(kn key.bm)|| !(kn key.attr))then 10 else bif(eP value != 0)then eP value else bif(value.kind==0)then 4 else 0)):=by
   intro k aj
   rcases aj with rfl|rfl<;>exact⟨rfl,rfl⟩
  rcases AV k with h|h|h|h|h|h|h|h|⟨aa,ae,aq,aT,bD,cA,dx,e5⟩
  ·subst h
   rw[(tn 2 (.inl rfl)).1,(tn 2 (.inl rfl)).2,vc,vc];show(bif(bif de 0 n m then(2:Int)else bif hE key.dev then 2 else 0) != 0 then _ else _)=(bif de 0 n m then _ else _)
   show _=(bif de 0 n m then _ else bif hE key.dev then _ else bif(!(valid key.bm)|| !(valid key.attr))then _ else bif(eP value != 0)then _ else bif(value.kind==0)then _ else _)
   generalize eP value=e
   cases de 0 n m
   ·cases hE key.dev
    ·cases valid key.bm
     ·rfl
     ·cases valid key.attr
      ·rfl
      ·cases bD:(e != 0)
       ·cases (value.kind==0)<;>rfl
       ·show(bif(e != 0)then _ else _)=_
        rw[bD];rfl
    ·rfl
   ·rfl
  ·subst h
   rw[(tn 13 (.inr rfl)).1,(tn 13 (.inr rfl)).2,vc,vc];show(bif(bif de 0 n m then(2:Int)else bif hE key.dev then 2 else 0) != 0 then _ else _)=(bif de 0 n m then _ else _)
   show _=(bif de 0 n m then _ else bif hE key.dev then _ else bif(!(valid key.bm)|| !(valid key.attr))then _ else bif(eP value != 0)then _ else bif(value.kind==0)then _ else _)
   generalize eP value=e
   cases de 0 n m
   ·cases hE key.dev
    ·cases valid key.bm
     ·rfl
     ·cases valid key.attr
      ·rfl
      ·cases bD:(e != 0)
       ·cases (value.kind==0)<;>rfl
       ·show(bif(e != 0)then _ else _)=_
        rw[bD];rfl
    ·rfl
   ·rfl
  ·subst h
   have mF:jE ⟨3,n,m,key,value,event,asked⟩=bif de 0 n m then 2 else bif hE event.dev then 2 else 0:=rfl
   have tq:pf ⟨3,n,m,key,value,event,asked⟩=bif !(kn event.bm)then(bif(!(kn event.bm)|| !false)then 10 else 0)else(bif(!(kn event.bm)|| !(kn event.name))then 10 else 0):=rfl
   rw[mF,tq,vc,vc];show(bif(bif de 0 n m then(2:Int)else bif hE event.dev then 2 else 0) != 0 then _ else _)=(bif de 0 n m then _ else _)
   cases de 0 n m<;>cases hE event.dev<;>cases valid event.bm<;>cases valid event.name<;>rfl
  ·subst h
   have mF:jE ⟨12,n,m,key,value,event,asked⟩=bif de 0 n m then 2 else 0:=by
    have:jE ⟨12,n,m,key,value,event,asked⟩=bif de 0 n m then 2 else bif hE 1 then 2 else 0:=rfl
    rw[this];rfl
   have tq:pf ⟨12,n,m,key,value,event,asked⟩=bif h0 asked (hC (eZ asked.request))then(bif(h0 asked (hC (eZ asked.request))|| !false)then 4 else 0)else(bif(h0 asked (hC (eZ asked.request))|| !(ve asked.token))then 4 else 0):=by kernel_rfl
   rw[mF,tq,va vj,TL aG];simp only[Ma];show(bif(bif de 0 n m then(2:Int)else 0) != 0 then _ else _)=(bif de 0 n m then _ else bif(h0 asked (gy (eZ asked.request))|| !(seen asked.token))then _ else _)
   cases de 0 n m<;>cases h0 asked (gy (eZ asked.request))<;>cases seen asked.token<;>rfl
  ·subst h
   have mF:jE ⟨8,n,m,key,value,event,asked⟩=bif de 0 n m then 2 else 0:=by
    have:jE ⟨8,n,m,key,value,event,asked⟩=bif de 0 n m then 2 else bif hE 1 then 2 else 0:=rfl
    rw[this];rfl
   rw[mF];show(bif(bif de 0 n m then(2:Int)else 0) != 0 then _ else _)=(bif de 0 n m then _ else _)
   cases de 0 n m<;>rfl
  ·subst h
   have mF:jE ⟨9,n,m,key,value,event,asked⟩=bif de 0 n m then 2 else 0:=by
    have:jE ⟨9,n,m,key,value,event,asked⟩=bif de 0 n m then 2 else bif hE 1 then 2 else 0:=rfl
    rw[this];rfl
   rw[mF];show(bif(bif de 0 n m then(2:Int)else 0) != 0 then _ else _)=(bif de 0 n m then _ else _)
   cases de 0 n m<;>rfl
  ·subst h
   have mF:jE ⟨14,n,m,key,value,event,asked⟩=bif de 0 n m then 2 else 0:=by
    have:jE ⟨14,n,m,key,value,event,asked⟩=bif de 0 n m then 2 else bif hE 1 then 2 else 0:=rfl
    rw[this];rfl
   rw[mF];show(bif(bif de 0 n m then(2:Int)else 0) != 0 then _ else _)=(bif de 0 n m then _ else _)
   cases de 0 n m<;>rfl
  ·subst h
   have mF:jE ⟨11,n,m,key,value,event,asked⟩=bif de (-1) n m then 2 else 0:=by
    have:jE ⟨11,n,m,key,value,event,asked⟩=bif de (-1) n m then 2 else bif hE 1 then 2 else 0:=rfl
    rw[this];rfl
   rw[mF];show(bif(bif de (-1) n m then(2:Int)else 0) != 0 then _ else _)=(bif de (-1) n m then _ else _)
   cases de (-1) n m<;>rfl
  ·have mF:jE ⟨k,n,m,key,value,event,asked⟩=bif de 0 n m then 2 else 0:=by
    have:jE ⟨k,n,m,key,value,event,asked⟩=bif de 0 n m then 2 else bif hE 1 then 2 else 0:=by
     unfold jE;simp only[aa,ae,aq,e5,cond_false];rfl
    rw[this];rfl
   have tq:pf ⟨k,n,m,key,value,event,asked⟩=0:=by
    unfold pf;simp only[aa,ae,aq,aT,cond_false]
   rw[mF,tq];unfold n8;simp only[aa,ae,aq,aT,bD,cA,dx,e5,cond_false,Bool.or_self]
   cases de 0 n m<;>rfl
end Go.aL
namespace Go.aL
open Go Go.ei
theorem Mh{a:bf}(aK:nq a):m14 a=jD a:=by
 obtain⟨k,n,m,key,value,event,asked⟩:=a
 unfold m14 jD
 cases aj:((decide (k<1))||(decide (k>16)))with
 |true=>rfl
 |false=>
  simp only[cond_false,T5];show(bif AW (qk ⟨k,n,m,key,value,event,asked⟩) ⟨k,n,m,key,value,event,asked⟩then _ else _)=_
  refine tm ?_
  clear aj
  have vj:dy (eZ asked.request):=xJ aK.q
  have aJ:lY asked.request=eZ asked.request:=L0 aK.q
  have tn: ∀W:ByteArray,(bif((jB key.dev key.bm key.attr).2 != 0)then((⟨#[]⟩:ByteArray),(jB key.dev key.bm key.attr).2)else bif(lW value != 0)then(⟨#[]⟩,lW value)else bif(value.kind==0)then(⟨#[]⟩,4)else
   (ByteArray.append (ByteArray.append (ByteArray.append (ByteArray.append W ⟨#[32]⟩) (jB key.dev key.bm key.attr).1) ⟨#[32]⟩) (pd value),0))=
   bif hE key.dev then(⟨#[]⟩,2)else bif(!(valid key.bm)|| !(valid key.attr))then(⟨#[]⟩,10)else bif(eP value != 0)then(⟨#[]⟩,eP value)else bif(value.kind==0)then(⟨#[]⟩,4)else
   (ByteArray.append (ByteArray.append (ByteArray.append (ByteArray.append W ⟨#[32]⟩) (hg key.dev key.bm key.attr)) ⟨#[32]⟩) (fO value),0):=by
   intro W;rw[Ez,u9,Et]
   cases hE key.dev
   ·cases (!(valid key.bm)|| !(valid key.attr))<;>rfl
   ·rfl
  rcases AV k with h|h|h|h|h|h|h|h|⟨aa,ae,aq,aT,bD,cA,dx,e5⟩
  ·subst h
   show(bif de 0 n m then _ else _)=(bif de 0 n m then _ else _)
   refine tm ?_
   exact tn (hZ 2)
  ·subst h
   show(bif de 0 n m then _ else _)=(bif de 0 n m then _ else _)
   refine tm ?_
   exact tn (hZ 13)
  ·subst h
   show(bif de 0 n m then _ else _)=(bif de 0 n m then _ else _)
   refine tm ?_
   show(bif((jB event.dev event.bm event.name).2 != 0)then((⟨#[]⟩:ByteArray),(jB event.dev event.bm event.name).2)else(ByteArray.append (ByteArray.append (hZ 3) ⟨#[32]⟩) (jB event.dev event.bm event.name).1,0))=_
   rw[Ez]
   cases hE event.dev
   ·cases av:(!(valid event.bm)|| !(valid event.name))<;>rfl
   ·rfl
  ·subst h
   have e: ∀W d h,(bif(((!(vf asked.token))||(d.2 != 0))|| !(bif d.1.kind==asked.request.kind then bif d.1.cW==asked.request.cW then bif d.1.key.dev==asked.request.key.dev then bif bn d.1.key.bm asked.request.key.bm then bif bn d.1.key.attr asked.request.key.attr then bif bn d.1.name asked.request.name then bif d.1.value.kind==asked.request.value.kind then bif d.1.value.n==asked.request.value.n then bif bn d.1.value.s asked.request.value.s then bn d.1.text asked.request.text else false else false else false else false else false else false else false else false else false))then((⟨#[]⟩:ByteArray),(4:Int))else(ByteArray.append (ByteArray.append (ByteArray.append (ByteArray.append W ⟨#[32]⟩) asked.token) ⟨#[32]⟩) h,0))=
    bif(h0 asked d|| !(seen asked.token))then((⟨#[]⟩:ByteArray),(4:Int))else(ByteArray.append (ByteArray.append (ByteArray.append (ByteArray.append W ⟨#[32]⟩) asked.token) ⟨#[32]⟩) h,0):=by
    intro W d h;unfold h0;rw[TN]
    cases seen asked.token<;>cases (d.2 != 0)<;>simp only[Bool.not_true,Bool.not_false,Bool.true_or,Bool.false_or,Bool.or_true,Bool.or_false]
   show(bif de 0 n m then _ else _)=(bif de 0 n m then _ else _)
   refine tm ?_
   refine Eq.trans (Eq.trans (by kernel_rfl) (e (hZ 12) (nv (lY asked.request)) (rK (lY asked.request)))) ?_
   rw[aJ,Ee vj,Mb];rfl
  ·subst h
   rfl
  ·subst h
   rfl
  ·subst h
   rfl
  ·subst h
   rfl
  ·unfold n8
   simp only[aa,ae,aq,aT,bD,cA,dx,e5,cond_false,Bool.or_self];rfl
end Go.aL
namespace Go.aL
open Go Go.ei
theorem T7(r:Rd)(n:Int)(hn:0≤n):(gi r n).1≤n:=by
 unfold gi
 cases cV:((jz ((cU r).2)) != 0)with
 |true=>exact hn
 |false=>
  simp only[cond_false]
  cases fV:decide ((cU r).1<0)with
  |true=>exact hn
  |false=>
   simp only[cond_false]
   cases mw:decide ((cU r).1>(if 0>n then 0 else n))with
   |true=>exact hn
   |false=>
    have mw:=of_decide_eq_false mw
    rw[if_neg (by omega)]at mw
    simp only[cond_false];omega
theorem xM(r:Rd)(n:Int)(hn:0≤n):((iE r n).1.size:Int)≤n:=by
 have h:=T7 r n hn
 have aS:=LC r n
 unfold iE
 simp only[cond_eq_ite]
 repeat' split
 ·exact hn
 ·exact hn
 ·show((ByteArray.size (ByteArray.extract _ 0 _):Nat):Int)≤n
  rw[ByteArray.size_extract];omega
theorem T8{x:jC}{s:ByteArray}(h:h0 x (gy s)=false):x.request.key.bm.size≤24∧x.request.key.attr.size≤24∧x.request.name.size≤24∧x.request.text.size≤20000:=by
 unfold h0 at h
 rw[Bool.or_eq_false_iff,Bool.not_eq_false']at h
 obtain⟨aa,ae⟩:=h
 have e:gy s=(eB s,0):=by
  revert aa;unfold gy
  split
  ·rename_i h
   intro aa;exact absurd (by simpa using aa) h
  ·split
   ·intro aa
    exact absurd aa (by decide)
   ·split
    ·intro aa
     exact absurd aa (by decide)
    ·intro _
     rfl
 rw[e]at ae
 unfold eB at ae
 simp only[cond_eq_ite,Bool.if_false_right,Bool.and_eq_true,decide_eq_true_eq,xN,Bool.decide_eq_true]at ae
 obtain⟨_,_,_,aq,aT,bD,_,_,_,cA⟩:=ae
 rw[←aq,←aT,←bD,←cA]
 have t1:=xM (mz s).2 24 (by decide)
 have t2:=xM (mA s).2 24 (by decide)
 have t3:=xM (mB s).2 24 (by decide)
 have t4:((ki s).1.size:Int)≤20000:=by
  unfold ki;exact xM _ _ (by decide)
 have t4:(ki s).1.size≤20000:=by omega
 refine⟨Int.ofNat_le.1 t1,Int.ofNat_le.1 t2,Int.ofNat_le.1 t3,?_⟩
 exact t4
theorem AZ{s:ByteArray}(h:bq s):(hB s).size≤s.size+10:=by
 rw[Aw h,Tv]
 have:=u5 (u:=gw s.size)
 omega
theorem Mi{x:jC}{s:ByteArray}(aK:lu x.request)(h:h0 x (gy s)=false):(eZ x.request).size≤1000000:=by
 obtain⟨bB,a2,a3,a4⟩:=T8 h
 obtain⟨aa,ae,aq,_,_,_,dx,_⟩:=AL aK
 have En:(lX ⟨x.request.value.kind,x.request.value.n,x.request.value.s⟩).size≤80:=dx
 have eY:=AZ aK.c
 have gH:=AZ aK.a
 have fX:=AZ aK.m
 have qm:=AZ aK.t
 unfold eZ
 simp only[fH]
 omega
theorem EA(d:Int)(c n:ByteArray):(hg d c n).size≤23+c.size+n.size:=by
 unfold hg
 have:=pe d
 simp only[fH]
 have:ByteArray.size (⟨#[46]⟩:ByteArray)=1:=rfl
 omega
theorem Mj{d:Int}{c n:ByteArray}(hd:df d)(hc:bq c)(hn:bq n):A0 d c n:=by
 have:=pe d
 have e:ByteArray.size (⟨#[46]⟩:ByteArray)=1:=rfl
 unfold bq at hc hn
 refine⟨hd.p,?_,?_,?_,?_⟩<;>(try simp only[fH])<;>omega
theorem Mk{d:Int}{c n:ByteArray}(hd:df d)(hc:bq c)(hn:bq n):xO d c n:=by
 have:=pe d
 have:(kR d).size≤21:=this
 have e:ByteArray.size (⟨#[46]⟩:ByteArray)=1:=rfl
 unfold bq at hc hn
 unfold xO
 intro _
 refine⟨LV _,?_⟩
 intro bl aF
 have dZ: ∀b,aF b:=by
  intro b _ v11
  have:v11.size≤21:=pe d
  refine⟨hd.p,?_,?_,?_,?_⟩<;>(try simp only[fH])<;>omega
 exact⟨fun _=>dZ _,fun _=>⟨LV _,dZ _⟩⟩
theorem Ml{d:Int}{c n:ByteArray}(hc:bq c)(hn:bq n):(jB d c n).1.size≤300000000000000:=by
 rw[Ez]
 have:=EA d c n
 unfold bq at hc hn
 simp only[cond_eq_ite]
 repeat' split
 ·exact Nat.zero_le _
 ·exact Nat.zero_le _
 ·show(hg d c n).size≤_
  omega
theorem T9{a:bf}(aK:nq a):A1 a:=by
 unfold A1
 have aG:a.asked.token.size<9223372036854775808:=by have:=aK.t;unfold bq at this;omega
 intro aF
 have dZ: ∀b,aF b:=by
  intro b;refine⟨fun _=>⟨AI _,fun _=>AI _⟩,fun _=>⟨fun _=>⟨AI _,fun _=>AI _⟩,fun _ _=>⟨L1 aK.q,LO (xJ aK.q),fun _=>TM aG⟩⟩⟩
 exact⟨fun _=>dZ _,fun _=>dZ _⟩
theorem Mm(k:Int):(hZ k).size≤10:=by
 have: ∀i:Nat,(List.getD ql i (fJ .str)).size≤10:=by
  intro i
  rcases Nat.lt_or_ge i 16 with h|h
  ·revert i
   decide+kernel
  ·rw[List.getD_eq_getElem?_getD,List.getElem?_eq_none (by exact h)]
   exact Nat.zero_le _
 exact this _
theorem Mn{k:Int}(h:((decide (k<1))||(decide (k>16)))=false):0≤IntKind.wrap .i64 (k-(1:Int))∧IntKind.wrap .i64 (k-(1:Int))<(16:Int):=by
 simp only[Bool.or_eq_false_iff,decide_eq_false_iff_not]at h
 rw[dw _ (by omega) (by omega)]
 omega
theorem EB{a:bf}(aK:nq a):xP a:=by
 obtain⟨k,n,m,key,value,event,asked⟩:=a
 have Ua:ByteArray.size (⟨#[32]⟩:ByteArray)=1:=rfl
 have Ub:=pe n
 have sm:=pe m
 have st:asked.token.size≤140737488351232:=aK.t
 have EC:(hg key.dev key.bm key.attr).size≤300000000000000:=by
  have:=EA key.dev key.bm key.attr
  have aa:key.bm.size≤140737488351232:=aK.AX
  have ae:key.attr.size≤140737488351232:=aK.AY
  omega
 have zcJ:(hg event.dev event.bm event.name).size≤300000000000000:=by
  have:=EA event.dev event.bm event.name
  have aa:event.bm.size≤140737488351232:=aK.u3
  have ae:event.name.size≤140737488351232:=aK.vi
  omega
 have Uc:=L8 value
 intro aj v4 v5 Ud v6 zcK bK
 refine⟨T9 aK,?_⟩
 intro A2 v10 v11
 refine⟨Mn aj,?_⟩
 have Ue:v11.size≤10:=by
  have:=Mm k
  rw[←Md k aj]at this;exact this
 intro aF
 have dZ: ∀b,aF b:=by
  intro b;refine⟨fun _=>?_,fun _=>⟨fun _=>?_,fun _=>⟨fun gV=>?_,fun _=>?_⟩⟩⟩
  ·refine⟨?_,Mj aK.Mf aK.AX aK.AY,?_,?_,L6 aK.v.n,?_⟩
   ·omega
   ·have:(vk ⟨key.dev,key.bm,key.attr⟩).size≤300000000000000:=EC
    simp only[fH];omega
   ·have:(vk ⟨key.dev,key.bm,key.attr⟩).size≤300000000000000:=EC
    simp only[fH];omega
   ·have:(vk ⟨key.dev,key.bm,key.attr⟩).size≤300000000000000:=EC
    have:(fO ⟨value.kind,value.n,value.s⟩).size≤250:=Uc
    simp only[fH];omega
  ·refine⟨?_,Mj aK.Mg aK.u3 aK.vi,?_⟩
   ·omega
   ·simp only[fH];omega
  ·have gV:k=12:=by simpa using gV
   subst gV
   have tq:pf ⟨12,n,m,key,value,event,asked⟩=bif h0 asked (hC (eZ asked.request))then(bif(h0 asked (hC (eZ asked.request))|| !false)then 4 else 0)else(bif(h0 asked (hC (eZ asked.request))|| !(ve asked.token))then 4 else 0):=by kernel_rfl
   have af:h0 asked (gy (eZ asked.request))=false:=by
    have A2:(pf ⟨12,n,m,key,value,event,asked⟩ != 0)=false:=A2
    rw[tq,va (xJ aK.q)]at A2;revert A2
    cases h0 asked (gy (eZ asked.request))
    ·exact fun _=>rfl
    ·intro h
     exact absurd h (show ¬((4:Int) != 0)=false by decide)
   have ah:(eZ asked.request).size≤1000000:=Mi aK.q af
   have hx:(tl (eZ asked.request)).size≤2*(eZ asked.request).size:=by rw[Ma];exact Ex _
   refine⟨?_,?_,?_,L1 aK.q,T3 ah,?_⟩
   ·omega
   ·simp only[fH];omega
   ·simp only[fH];omega
   ·show ByteArray.size _+(tl (eZ asked.request)).size≤_
    simp only[fH];omega
  ·intro bT
   have rL: ∀b,bT b:=by
    intro b;refine⟨fun _=>⟨?_,aK.n.p,?_,?_,aK.m.p,?_⟩,fun _ _=>⟨?_,aK.n.p,?_⟩⟩<;>(try simp only[fH])<;>omega
   exact⟨fun _=>rL _,fun _=>rL _⟩
 exact⟨fun _=>dZ _,fun _=>dZ _⟩
set_option maxRecDepth 8000 in
theorem SQ{a:bf}(aK:nq a):ED a:=by
 obtain⟨k,n,m,key,value,event,asked⟩:=a
 have Ua:ByteArray.size (⟨#[32]⟩:ByteArray)=1:=rfl
 have Ub:(kR n).size≤21:=pe n
 have sm:(kR m).size≤21:=pe m
 have st:asked.token.size≤140737488351232:=aK.t
 have EE:=Ml (d:=key.dev) aK.AX aK.AY
 have Uf:=Ml (d:=event.dev) aK.u3 aK.vi
 have Ug:(pd value).size≤250:=by rw[Et];exact L8 value
 have vj:dy (eZ asked.request):=xJ aK.q
 have aJ:lY asked.request=eZ asked.request:=L0 aK.q
 intro aj v4 v5 Ud v6 bl bK
 have Ue:bK.size≤10:=Mm k
 refine⟨Mn aj,?_⟩
 intro aF
 have dZ: ∀b,aF b:=by
  intro b _ bT
  have rL: ∀b,bT b:=by
   intro b;refine⟨fun _=>⟨Mk aK.Mf aK.AX aK.AY,fun _ _ _=>⟨?_,?_,?_,L7 aK.v.n,?_⟩⟩,fun _=>⟨fun _=>⟨Mk aK.Mg aK.u3 aK.vi,fun _=>⟨?_,?_⟩⟩,fun _=>?_⟩⟩
   ·omega
   ·have:(jB key.dev key.bm key.attr).1.size≤300000000000000:=EE
    simp only[fH];omega
   ·have:(jB key.dev key.bm key.attr).1.size≤300000000000000:=EE
    simp only[fH];omega
   ·have:(jB key.dev key.bm key.attr).1.size≤300000000000000:=EE
    have:(pd ⟨value.kind,value.n,value.s⟩).size≤250:=Ug
    simp only[fH];omega
   ·omega
   ·have:(jB event.dev event.bm event.name).1.size≤300000000000000:=Uf
    simp only[fH];omega
   ·intro Uh
    have Mo: ∀b,Uh b:=by
     intro b;refine⟨fun _=>⟨?_,aK.n.p,?_,?_,aK.m.p,?_⟩,fun _=>⟨fun _=>?_,fun _ _=>⟨?_,aK.n.p,?_⟩⟩⟩
     ·omega
     ·simp only[fH];omega
     ·simp only[fH];omega
     ·simp only[fH];omega
     ·refine⟨TU aK.q,?_,TO _,?_⟩
      ·show qg (lY asked.request)
       rw[aJ];exact LQ vj
      ·intro nw h
       rw[Bool.or_eq_false_iff,Bool.or_eq_false_iff]at h
       have af:h0 asked (nv (lY asked.request))=false:=by
        rw[h0,Bool.or_eq_false_iff];exact⟨h.1.2,h.2⟩
       rw[aJ,Ee vj]at af
       have a8:(tk (eZ asked.request)).size≤2*(eZ asked.request).size:=Ex _
       have ah:(eZ asked.request).size≤1000000:=Mi aK.q af
       have hx:(rK (lY asked.request)).size≤2*(eZ asked.request).size:=by rw[aJ,Mb];exact Ex _
       refine⟨?_,?_,?_,?_,?_⟩
       ·omega
       ·simp only[fH];omega
       ·simp only[fH];omega
       ·show AU (lY asked.request)
        rw[aJ];exact T4 ah
       ·show ByteArray.size _+(rK (lY asked.request)).size≤_
        simp only[fH];omega
     ·omega
     ·simp only[fH];omega
    exact⟨fun _=>Mo _,fun _=>Mo _⟩
  exact⟨fun _=>rL _,fun _=>rL _⟩
 exact⟨fun _=>dZ _,fun _=>dZ _⟩
end Go.aL
namespace Go.aL
open Go Go.ei
theorem vl(z:Int):df (IntKind.wrap .i64 z):=by
 unfold df
 simp[IntKind.wrap,IntKind.bits,IntKind.signed]
 omega
theorem vm(x:ByteArray)(c:Int): -1≤gW x c∧gW x c<(x.size:Int):=by
 show -1≤tr x c∧tr x c<(x.size:Int)
 unfold tr
 split
 ·rename_i i h
  have:=List.mem_of_find?_eq_some h
  rw[List.mem_range]at this;omega
 ·omega
theorem EF{R A B:Type}{Q:B→Prop}{f:R→B}{g:A→B}{l:R⊕A}(aa: ∀r,l= .inl r→Q (f r))(ae: ∀a,l= .inr a→Q (g a)):Q (Sum.elim f g l):=by
 cases l with
 |inl r=>exact aa r rfl
 |inr a=>exact ae a rfl
theorem Ui{R A:Type}{b:Nat→A→Step R A}{Q:R→Prop}(h: ∀i a r,b i a= .ret r→Q r): ∀(n k:Nat) (a:A) (r:R),bV b k n a= .inl r→Q r:=by
 intro n
 induction n with
 |zero=>intro k a r h;simp[bV]at h
 |succ n aQ=>
  intro k a r af;unfold bV at af
  split at af
  ·rename_i er ad
   cases af;exact h _ _ _ ad
  ·cases af
  ·exact aQ _ _ _ af
theorem Mp{R A:Type}{b:A→Step R A}{Q:R→Prop}(h: ∀a r,b a= .ret r→Q r): ∀(n:Nat) (a:A) (r:R),b9 b n a= .inl r→Q r:=by
 intro n
 induction n with
 |zero=>intro a r h;simp[b9]at h
 |succ n aQ=>
  intro a r af;unfold b9 at af
  split at af
  ·rename_i er ad
   cases af;exact h _ _ ad
  ·cases af
  ·exact aQ _ _ af
theorem Uj{R A:Type}{b:A→Step R A}{I:A→Prop}(h: ∀a,I a→(∀a6,b a= .bx a6→I a6)∧∀a6,b a= .b7 a6→I a6): ∀(n:Nat) (a a6:A),I a→b9 b n a= .inr a6→I a6:=by
 intro n
 induction n with
 |zero=>intro a a6 ch h;simp[b9]at h;exact h ▸ ch
 |succ n aQ=>
  intro a a6 ch af;unfold b9 at af
  split at af
  ·cases af
  ·rename_i a2 ad
   cases af;exact(h a ch).2 _ ad
  ·rename_i a2 ad
   exact aQ _ _ ((h a ch).1 _ ad) af
theorem Uk(v:Int): -1099511627776≤hO v∧hO v≤1099511627776:=by
 unfold hO
 have h: -1099511627776≤b4.den (.mx .i64) v ((-1099511627776):Int):=by
  show(-1099511627776:Int)≤(if(-1099511627776:Int)>v then(-1099511627776:Int)else v)
  split<;>omega
 generalize b4.den (.mx .i64) v ((-1099511627776):Int)=z at h⊢
 have h:(-1099511627776:Int)≤z:=h
 show -1099511627776≤(if(1099511627776:Int)<z then(1099511627776:Int)else z)∧(if(1099511627776:Int)<z then(1099511627776:Int)else z)≤1099511627776
 split<;>omega
theorem Ul{v:Int}(h:(hO v != v)=false):df v:=by
 have e:hO v=v:=by simpa using h
 have:=Uk v
 rw[e]at this
 unfold df
 omega
theorem pg(x:ByteArray):ko x:=by
 unfold ko
 intro v3 h
 simp only[Bool.or_eq_false_iff,beq_eq_false_iff_ne,decide_eq_false_iff_not]at h
 obtain⟨aa,ae⟩:=h
 have ae: ¬(x.size:Int)>14:=ae
 refine⟨⟨by show(0:Int)≤(x.size:Int);omega,by show(x.size:Int)<_;omega⟩,?_⟩
 intro aR
 refine⟨fun _ d=>df d,bM,?_,?_⟩
 ·intro i7 d0 _ hd aF v9
  exact⟨fun _=>vl _,fun _ _=>hd⟩
 ·intro bj hc
  exact⟨⟨Int.le_refl _,by omega⟩,fun _ _=>(vl _).p,fun _ _=>hc.p⟩
theorem mG(x:ByteArray):df (cI x).1:=by
 have fin: ∀(v:Int) (w:ByteArray),df (bif((hO v != v)||bb .neq w x)then((0:Int),false)else(v,true)).1:=by
  intro v w
  cases h:(hO v != v)
  ·cases bb .neq w x
   ·exact Ul h
   ·exact bM
  ·exact bM
 have qn: ∀v:Int,df (bif(hO v != v)then(bif((hO v != v)||bb .neq (⟨#[]⟩:ByteArray) x)then((0:Int),false)else(v,true))else(bif((hO v != v)||bb .neq (e6 v) x)then((0:Int),false)else(v,true))).1:=by
  intro v
  cases h:(hO v != v)
  ·have:=fin v (e6 v)
   rw[h]at this;exact this
  ·exact bM
 unfold cI
 dsimp only
 cases ((((ByteArray.size x:Int)==0)||(decide ((ByteArray.size x:Int)>14))))with
 |true=>exact bM
 |false=>
  simp only[cond_false];refine EF (Q:=fun r:Int × Bool=>df r.1) (fun r af=>?_) (fun c _=>?_)
  ·have:r=(0,false):=by
    refine Ui (Q:=fun r=>r=(0,false)) ?_ _ _ _ _ af
    intro i a r h;revert h
    cases ((decide ((aC x (i:Int))≥48))&&(decide ((aC x (i:Int))≤57)))
    ·simp only[cond_false]
     cases ((decide ((i:Int)>0))||((aC x (i:Int)) != 45))
     ·intro h;cases h
     ·intro h;cases h;rfl
    ·intro h;cases h
   rw[this];exact bM
  ·cases ((aC x (0:Int))==45)
   ·exact qn c
   ·exact qn _
theorem Mq(z:Int):tj (IntKind.wrap .u8 z):=by
 have: ∃n:Nat,IntKind.wrap .u8 z=(n:Int)∧n<256:=by
  refine⟨(z%256).toNat,?_,by omega⟩
  simp[IntKind.wrap,IntKind.bits,IntKind.signed];omega
 obtain⟨n,e,h⟩:=this
 rw[e]
 exact Ep h
theorem Um(x:ByteArray)(z:Int):tj (aC x z):=by
 obtain⟨n,e,h⟩:=qi x z
 rw[e]
 exact Ep h
theorem tt{x:ByteArray}(h:bb .eql x (⟨#[]⟩:ByteArray)=false):0<(x.size:Int):=by
 have h:bn x ⟨#[]⟩=false:=h
 rw[tu]at h
 rcases Nat.eq_zero_or_pos x.size with aS|aS
 ·exact absurd (ByteArray.ext (Array.eq_empty_of_size_eq_zero aS)) h
 ·omega
theorem vn{x:ByteArray}(h:bb .neq x (⟨#[]⟩:ByteArray)=true):0<(x.size:Int):=by
 refine tt ?_
 have h:(!bn x ⟨#[]⟩)=true:=h
 show bn x ⟨#[]⟩=false
 simpa using h
theorem Un(x:ByteArray):A3 x:=by
 unfold A3
 intro v1
 refine⟨fun h=>⟨Int.le_refl _,tt h⟩,?_⟩
 intro h
 rw[Bool.or_eq_false_iff]at h
 have ah:=tt h.1
 refine⟨⟨Int.le_refl _,ah⟩,fun _=>⟨⟨Int.le_refl _,ah⟩,⟨by decide,by omega⟩,Um _ _,fun _=>⟨Int.le_refl _,ah⟩⟩,fun _=>?_⟩
 intro bl bK
 have e5:bK=true→(2:Int)≤(x.size:Int):=fun h=>of_decide_eq_true h
 refine⟨fun h=>⟨by decide,by have:=e5 h;omega⟩,?_⟩
 intro v10
 refine⟨fun h _=>⟨by decide,by have:=e5 h;omega⟩,fun h=>⟨by decide,by have:=e5 (Bool.and_eq_true _ _ ▸ h).1;omega⟩,fun _=>?_⟩
 intro e7
 have Mr:e7=false→(4:Int)≤(x.size:Int):=fun h=>by
  have h: ¬(x.size:Int)<4:=of_decide_eq_false h
  omega
 refine⟨fun h=>⟨by decide,by have:=Mr h;omega⟩,?_⟩
 intro da
 have Ms:da=false→(4:Int)≤(x.size:Int):=fun h=>Mr ((Bool.or_eq_false_iff.1 h).1)
 refine⟨fun h=>⟨by decide,by have:=Ms h;omega⟩,?_⟩
 intro aF
 have dZ: ∀z,aF z:=by
  intro z
  have EG:(da||decide (z<0))=false→(4:Int)≤(x.size:Int):=fun h=>Ms ((Bool.or_eq_false_iff.1 h).1)
  refine⟨fun h=>⟨by decide,by have:=EG h;omega⟩,fun _ h=>?_,fun _ h=>?_⟩
  ·have aT:=EG ((Bool.or_eq_false_iff.1 h).1)
   exact⟨⟨by decide,by omega⟩,⟨by decide,by omega⟩,⟨by decide,by omega⟩,Mq _⟩
  ·have aT:=EG ((Bool.or_eq_false_iff.1 h).1)
   exact⟨⟨by decide,by omega⟩,⟨by decide,by omega⟩,⟨by decide,by omega⟩,Mq _⟩
 exact⟨fun _=>dZ _,fun _=>dZ _⟩
theorem Uo(x:ByteArray):0≤(fC x).2∧(fC x).2≤(x.size:Int):=by
 have aS:(0:Int)≤0∧(0:Int)≤(x.size:Int):=by omega
 unfold fC
 dsimp only
 cases h:((bb .eql x (⟨#[]⟩:ByteArray))||((aC x (0:Int))==34))with
 |true=>exact aS
 |false=>
  rw[Bool.or_eq_false_iff]at h
  have ah:=tt h.1
  simp only[cond_false]
  cases (aC x (0:Int) != 92)with
  |true=>
   simp only[cond_true]
   cases bb .neq (lv (aC x 0)) (bw x none (some 1))
   ·exact⟨show(0:Int)≤1 by decide,show(1:Int)≤_ by omega⟩
   ·exact aS
  |false=>
   simp only[cond_false]
   cases ae:((decide ((x.size:Int)≥2))&&(((aC x (1:Int))==34)||((aC x (1:Int))==92)))with
   |true=>
    rw[Bool.and_eq_true]at ae
    have ae:(x.size:Int)≥2:=of_decide_eq_true ae.1
    exact⟨show(0:Int)≤2 by decide,show(2:Int)≤_ by omega⟩
   |false=>
    simp only[cond_false]
    cases aq:((decide ((x.size:Int)<4))||((aC x (1:Int)) != 120))with
    |true=>exact aS
    |false=>
     rw[Bool.or_eq_false_iff]at aq
     have aq: ¬(x.size:Int)<4:=of_decide_eq_false aq.1
     simp only[cond_eq_ite]
     repeat' split
     all_goals first
      |exact aS
      |exact⟨show(0:Int)≤4 by decide,show(4:Int)≤_ by omega⟩
theorem Up{x:ByteArray}(hx:bq x):A4 x:=by
 unfold bq at hx
 unfold A4
 intro v1
 refine⟨fun h=>⟨Int.le_refl _,tt h⟩,?_⟩
 intro h
 rw[Bool.or_eq_false_iff]at h
 have ah:=tt h.1
 refine⟨fun d=>1≤d.1∧d.1≤(x.size:Int)∧(d.2.1.length:Int)+1≤d.1,fun d=>x.size+1-d.1.toNat,⟨by decide,by show(1:Int)≤_;omega,by decide⟩,?_,?_⟩
 ·show x.size+1-Int.toNat 1<18446744073709551616
  omega
 ·intro d0 hd
  obtain⟨d1,d2,d3⟩:=hd;intro v9;refine⟨fun h=>⟨by omega,of_decide_eq_true h⟩,fun h=>?_⟩
  have bA:d0.1<(x.size:Int):=of_decide_eq_true (Bool.and_eq_true _ _ ▸ h).1
  have bJ:(bw x (some d0.1) none).size=x.size-d0.1.toNat:=by
   show(ByteArray.extract x d0.1.toNat x.size).size=_;rw[ByteArray.size_extract];omega
  obtain⟨hN,lx⟩:=Uo (bw x (some d0.1) none);rw[bJ]at lx;refine⟨⟨by omega,by omega⟩,Un _,fun aS=>?_⟩
  have aS:(fC (bw x (some d0.1) none)).2≠0:=by simpa using aS
  intro aF
  have w:IntKind.wrap .i64 (d0.1+(fC (bw x (some d0.1) none)).2)=d0.1+(fC (bw x (some d0.1) none)).2:=dw _ (by omega) (by omega)
  have dZ: ∀b,aF b:=by
   intro b
   have ao: ∀v:Int,[v].length=1:=fun _=>rfl
   have tv: ∀v:Int,(List.append d0.2.1 [v]).length=d0.2.1.length+1:=by
    intro v;show(d0.2.1++[v]).length=_;rw[List.length_append];rfl
   refine⟨⟨?_,?_⟩,⟨?_,?_,?_⟩,?_⟩
   ·rw[ao];unfold maxLen;omega
   ·rw[ao];omega
   ·show 1≤IntKind.wrap .i64 (d0.1+(fC (bw x (some d0.1) none)).2)
    rw[w];omega
   ·show IntKind.wrap .i64 (d0.1+(fC (bw x (some d0.1) none)).2)≤_
    rw[w];omega
   ·show((List.append d0.2.1 [_]).length:Int)+1≤IntKind.wrap .i64 (d0.1+(fC (bw x (some d0.1) none)).2)
    rw[w,tv];omega
   ·show x.size+1-(IntKind.wrap .i64 (d0.1+(fC (bw x (some d0.1) none)).2)).toNat<x.size+1-d0.1.toNat
    rw[w];omega
  exact⟨fun _=>dZ _,fun _=>dZ _⟩
theorem Uq{x:ByteArray}(hx:bq x):EH x:=Up hx
theorem Ur(x:ByteArray):bq (qo x).1:=by
 unfold qo
 simp only[cond_eq_ite]
 repeat' split
 ·exact Nat.zero_le _
 ·exact Nat.zero_le _
 ·rename_i h
  simp only[decide_eq_true_eq]at h;show ByteArray.size _≤_;dsimp only;omega
theorem Us{x:ByteArray}(hx:bq x):xQ x:=by
 unfold xQ
 intro aF
 have dZ: ∀a b c,df b→aF a b c:=fun a b c ad _=>L6 (v:=⟨a,b,c⟩) ad
 refine⟨fun _=>dZ _ _ _ bM,fun _=>⟨fun _=>⟨fun _=>dZ _ _ _ (mD (by decide) (by decide)),fun _=>dZ _ _ _ bM⟩,fun _=>?_⟩⟩
 intro v5
 refine⟨fun h=>⟨Int.le_refl _,vn h⟩,fun h=>?_,fun _=>?_⟩
 ·have h:=vn (Bool.and_eq_true _ _ ▸ h).1
  exact⟨⟨by decide,by omega⟩,pg _,dZ _ _ _ (mG _)⟩
 ·intro v9
  exact⟨fun h=>⟨Int.le_refl _,vn h⟩,fun _=>⟨Uq hx,dZ _ _ _ bM⟩,fun _=>⟨pg _,dZ _ _ _ (mG _)⟩⟩
theorem Mt(x:ByteArray):qh (e0 x).1:=by
 have fin: ∀(a b:Int) (c w:ByteArray),df a→df b→bq c→qh (bif(bb .eql x (⟨#[]⟩:ByteArray)||bb .neq w x)then((⟨0,0,⟨#[]⟩⟩:bH),(4:Int))else(⟨a,b,c⟩,0)).1:=by
  intro a b c w aK ad hc
  cases (bb .eql x (⟨#[]⟩:ByteArray)||bb .neq w x)
  ·exact⟨aK,ad,hc⟩
  ·exact⟨bM,bM,Nat.zero_le _⟩
 have qn: ∀(a b:Int) (c:ByteArray),df a→df b→bq c→qh (bif bb .eql x (⟨#[]⟩:ByteArray)then(bif(bb .eql x (⟨#[]⟩:ByteArray)||bb .neq (⟨#[]⟩:ByteArray) x)then((⟨0,0,⟨#[]⟩⟩:bH),(4:Int))else(⟨a,b,c⟩,0))else(bif(bb .eql x (⟨#[]⟩:ByteArray)||bb .neq (fO ⟨a,b,c⟩) x)then((⟨0,0,⟨#[]⟩⟩:bH),(4:Int))else(⟨a,b,c⟩,0))).1:=by
  intro a b c aK ad hc
  have aa:=fin a b c (⟨#[]⟩:ByteArray) aK ad hc
  have ae:=fin a b c (fO ⟨a,b,c⟩) aK ad hc
  simp only[cond_eq_ite];simp only[cond_eq_ite]at aa ae
  split
  ·exact aa
  ·exact ae
 have small: ∀k:Int, -10≤k→k≤10→df k:=fun k aa ae=>mD (by omega) (by omega)
 have e:bq (⟨#[]⟩:ByteArray):=Nat.zero_le _
 unfold e0
 dsimp only
 cases (bb .eql x (⟨#[110,111,110,101]⟩:ByteArray))
 ·simp only[cond_false]
  cases ((bb .eql x (⟨#[116,114,117,101]⟩:ByteArray))||(bb .eql x (⟨#[102,97,108,115,101]⟩:ByteArray)))
  ·simp only[cond_false]
   cases ((bb .neq x (⟨#[]⟩:ByteArray))&&((aC x (0:Int))==35))
   ·simp only[cond_false]
    cases ((bb .neq x (⟨#[]⟩:ByteArray))&&((aC x (0:Int))==34))
    ·exact qn _ _ _ (small _ (by decide) (by decide)) (mG _) e
    ·exact qn _ _ _ (small _ (by decide) (by decide)) bM (Ur _)
   ·exact qn _ _ _ (small _ (by decide) (by decide)) (mG _) e
  ·simp only[cond_true]
   cases (bb .eql x (⟨#[116,114,117,101]⟩:ByteArray))
   ·exact qn _ _ _ (small _ (by decide) (by decide)) bM e
   ·exact qn _ _ _ (small _ (by decide) (by decide)) (small _ (by decide) (by decide)) e
 ·exact qn _ _ _ bM bM e
end Go.aL
namespace Go.aL
open Go Go.ei
theorem Mu(z:Int):xR z:=by
 unfold xR
 decide
theorem A5(l:List Int)(v:Int):(List.append l [v]).length=l.length+1:=by
 show(l++[v]).length=_
 rw[List.length_append]
 rfl
theorem Ut{x:ByteArray}(hx:bq x):xS x:=by
 unfold bq at hx
 unfold xS
 intro v1 h
 have h:(aZ .rem .i64 (x.size:Int) 2 != 0)=false:=h
 have h:(x.size:Int).tmod 2=0:=by simpa[aZ]using h
 have aJ:aZ .quo .i64 (x.size:Int) 2=((x.size/ 2:Nat):Int):=by
  show IntKind.wrap .i64 ((x.size:Int).tdiv 2)=_;rw[Int.tdiv_eq_ediv_of_nonneg (by omega),dw _ (by omega) (by omega)]
  omega
 refine⟨?_,fun d=>0≤d.1∧d.1≤(x.size:Int)∧d.1%2=0∧(d.2.length:Int)≤d.1,fun d=>x.size-d.1.toNat,⟨Int.le_refl _,by show(0:Int)≤_;omega,rfl,Int.le_refl _⟩,?_,?_⟩
 ·show 0≤(0:Int)∧(0:Int)≤aZ .quo .i64 (x.size:Int) 2∧aZ .quo .i64 (x.size:Int) 2≤(maxLen:Int)∧(1:Int)*aZ .quo .i64 (x.size:Int) 2≤281474976710656
  rw[aJ];unfold maxLen;omega
 ·show x.size-Int.toNat 0<18446744073709551616
  omega
 ·intro d0 hd
  obtain⟨d1,d2,d3,d4⟩:=hd;intro bA
  have bA:d0.1<(x.size:Int):=of_decide_eq_true bA
  rw[Int.tmod_eq_emod_of_nonneg (by omega)]at h
  have cn:IntKind.wrap .i64 (d0.1+1)=d0.1+1:=dw _ (by omega) (by omega)
  have cH:IntKind.wrap .i64 (d0.1+2)=d0.1+2:=dw _ (by omega) (by omega)
  refine⟨⟨d1,bA⟩,?_,Mu _,Mu _,fun _=>⟨⟨?_,?_⟩,⟨?_,?_,?_,?_⟩,?_⟩⟩
  ·show 0≤IntKind.wrap .i64 (d0.1+1)∧IntKind.wrap .i64 (d0.1+1)<_
   rw[cn];omega
  ·show d0.2.length+1≤maxLen
   unfold maxLen;omega
  ·show(d0.2.length+1)*1≤_
   omega
  ·show 0≤IntKind.wrap .i64 (d0.1+2)
   rw[cH];omega
  ·show IntKind.wrap .i64 (d0.1+2)≤_
   rw[cH];omega
  ·show IntKind.wrap .i64 (d0.1+2)%2=0
   rw[cH];omega
  ·show((List.append d0.2 [_]).length:Int)≤IntKind.wrap .i64 (d0.1+2)
   rw[cH,A5];omega
  ·show x.size-(IntKind.wrap .i64 (d0.1+2)).toNat<x.size-d0.1.toNat
   rw[cH];omega
theorem Uu{x:ByteArray}(hx:bq x):(gk x).1.size≤x.size+1:=by
 unfold bq at hx
 unfold gk
 dsimp only
 cases ((aZ .rem .i64 (x.size:Int) (2:Int)) != 0)with
 |true=>exact Nat.zero_le _
 |false=>
  simp only[cond_false];refine EF (Q:=fun r:ByteArray × Int=>r.1.size≤x.size+1) (fun r af=>?_) (fun c hc=>?_)
  ·have:r=(⟨#[]⟩,4):=by
    refine Mp (Q:=fun r=>r=(⟨#[]⟩,4)) ?_ _ _ _ af
    intro a r h;revert h;simp only[cond_eq_ite]
    repeat' split
    ·intro h;cases h;rfl
    ·intro h;cases h
    ·intro h;cases h
   rw[this];exact Nat.zero_le _
  ·have:0≤c.1∧c.1≤(x.size:Int)+1∧(c.2.length:Int)≤c.1:=by
    refine Uj (I:=fun c:Int × List Int=>0≤c.1∧c.1≤(x.size:Int)+1∧(c.2.length:Int)≤c.1) ?_ _ _ _ ⟨Int.le_refl _,by show(0:Int)≤_;omega,Int.le_refl _⟩ hc
    intro a aK;obtain⟨bB,a2,a3⟩:=aK
    cases bA:decide (a.1<(x.size:Int))with
    |false=>
     simp only[cond_false];refine⟨fun a6 h=>(by cases h),fun a6 h=>?_⟩
     cases h;exact⟨bB,a2,a3⟩
    |true=>
     have bA:=of_decide_eq_true bA
     simp only[cond_true]
     have cH:IntKind.wrap .i64 (a.1+2)=a.1+2:=dw _ (by omega) (by omega)
     rw[cH];simp only[cond_eq_ite]
     split
     ·exact⟨fun a6 h=>(by cases h),fun a6 h=>(by cases h)⟩
     ·refine⟨fun a6 h=>?_,fun a6 h=>(by cases h)⟩
      cases h;refine⟨?_,?_,?_⟩
      ·show 0≤a.1+2;omega
      ·show a.1+2≤_;omega
      ·show((List.append a.2 [_]).length:Int)≤a.1+2
       rw[A5];omega
   show(bytesOf c.2).size≤_;rw[u2];omega
theorem bq.str{x:ByteArray}(h:bq x){a b:Option Int}:bq (bw x a b):=by
 unfold bq at h⊢
 have:=AN (b:=x) (a:=a) (c:=b)
 omega
theorem rM{x:ByteArray}(hx:bq x){v:Int}(h:(decide (v≥0))=true)(av:v<(x.size:Int)):eo x.size none (some v)∧eo x.size (some (IntKind.wrap .i64 (v+1))) none:=by
 unfold bq at hx
 have h:v≥0:=of_decide_eq_true h
 have w:IntKind.wrap .i64 (v+1)=v+1:=dw _ (by omega) (by omega)
 rw[w]
 exact⟨⟨h,by omega⟩,⟨by omega,by omega⟩⟩
theorem A6{x:ByteArray}(c:UInt8)(h:bb .eql (⟨#[c]⟩:ByteArray) x=true):(0:Int)<(x.size:Int):=by
 have h:bn (⟨#[c]⟩:ByteArray) x=true:=h
 rw[xN]at h
 rw[←h]
 exact Int.zero_lt_one
theorem Mv{x:ByteArray}(hx:bq x):tw x:=by
 unfold tw
 intro bT
 have dZ: ∀a b c,bq b→bT a b c:=by
  intro a b c ad
  have fD: ∀v:Int,v<(b.size:Int)→((decide (v≥0))=true→(eo (ByteArray.size b) none (some v))∧(eo (ByteArray.size b) (some (IntKind.wrap .i64 (v+(1:Int)))) none)∧ko a)∧((decide (v≥0))=false→ko a):=by
   intro v av;exact⟨fun h=>⟨(rM ad h av).1,(rM ad h av).2,pg _⟩,fun _=>pg _⟩
  exact⟨fun h=>fD 0 (A6 _ h),fun _=>⟨by decide,fD _ (vm _ _).2⟩⟩
 have fD: ∀v:Int,v<(x.size:Int)→((decide (v≥0))=true→(eo (ByteArray.size x) none (some v))∧(eo (ByteArray.size x) (some (IntKind.wrap .i64 (v+(1:Int)))) none)∧bT (bw x none (some v)) (bw x (some (IntKind.wrap .i64 (v+(1:Int)))) none) true)∧((decide (v≥0))=false→bT x (⟨#[]⟩:ByteArray) false):=by
  intro v av;exact⟨fun h=>⟨(rM hx h av).1,(rM hx h av).2,dZ _ _ true hx.str⟩,fun _=>dZ _ _ false (Nat.zero_le _)⟩
 exact⟨fun h=>fD 0 (A6 _ h),fun _=>⟨by decide,fD _ (vm _ _).2⟩⟩
structure EI (r:Int × ByteArray × ByteArray × Bool):Prop where
 d:df r.1
 c:bq r.2.1
 n:bq r.2.2.1
noncomputable def qp{α:Type}(c:UInt8)(x:ByteArray)(K:ByteArray→ByteArray→Bool→α):α:=
 bif bb .eql (⟨#[c]⟩:ByteArray) x then(bif decide ((0:Int)≥0)then K (bw x none (some 0)) (bw x (some (IntKind.wrap .i64 ((0:Int)+(1:Int)))) none) true else K x (⟨#[]⟩:ByteArray) false)
 else(bif decide (gW x (aC (⟨#[c]⟩:ByteArray) 0)≥0)then K (bw x none (some (gW x (aC (⟨#[c]⟩:ByteArray) 0)))) (bw x (some (IntKind.wrap .i64 (gW x (aC (⟨#[c]⟩:ByteArray) 0)+(1:Int)))) none) true else K x (⟨#[]⟩:ByteArray) false)
theorem EJ{α:Type}{Q:α→Prop}{c:UInt8}{x:ByteArray}{K:ByteArray→ByteArray→Bool→α}(hx:bq x)(h: ∀a b f,bq a→bq b→Q (K a b f)):Q (qp c x K):=by
 have e:bq (⟨#[]⟩:ByteArray):=Nat.zero_le _
 unfold qp
 simp only[cond_eq_ite]
 repeat' split
 ·exact h _ _ _ hx.str hx.str
 ·exact h _ _ _ hx e
 ·exact h _ _ _ hx.str hx.str
 ·exact h _ _ _ hx e
theorem EK(x:ByteArray):h1 x=qp 46 x fun a r f=>qp 46 r fun b c g=>((cI a).1,b,c,((f&&g)&&(cI a).2)):=by
 kernel_rfl
theorem Mw{x:ByteArray}(hx:bq x):EI (h1 x):=by
 rw[EK]
 exact EJ (Q:=EI) hx fun a r f _ af=>EJ (Q:=EI) af fun b c g ad hc=>⟨mG _,ad,hc⟩
theorem tx(r:Rd):df (cU r).1:=by
 unfold cU
 simp only[cond_eq_ite]
 repeat' split
 ·exact bM
 ·exact bM
 ·exact vl _
theorem xT(r:Rd)(n:Int)(h:0≤n)(hn:n≤20000):bq (iE r n).1:=by
 have:=xM r n h
 unfold bq
 omega
theorem Uv(r:Rd):qh (o1 r).1:=by
 have e:bq (⟨#[]⟩:ByteArray):=Nat.zero_le _
 have aa:qh (sV r):=by
  unfold sV;simp only[cond_eq_ite]
  repeat' split
  ·exact⟨tx _,tx _,e⟩
  ·exact⟨tx _,bM,xT _ _ (by decide) (by decide)⟩
  ·exact⟨tx _,bM,e⟩
 unfold o1
 simp only[cond_eq_ite]
 split
 ·exact⟨bM,bM,e⟩
 ·exact aa
theorem Mx(s:ByteArray):lu (gy s).1:=by
 have e:bq (⟨#[]⟩:ByteArray):=Nat.zero_le _
 have br:lu AE:=⟨bM,bM,bM,e,e,e,⟨bM,bM,e⟩,e⟩
 have e5:bq (ki s).1:=by
  unfold ki;exact xT _ _ (by decide) (by decide)
 have hd:lu (eB s):=by
  unfold eB;generalize ki s=d8 at e5⊢;exact⟨tx _,tx _,tx _,xT _ _ (by decide) (by decide),xT _ _ (by decide) (by decide),xT _ _ (by decide) (by decide),Uv _,e5⟩
 unfold gy
 repeat' split
 all_goals first|exact br|exact hd
theorem tz{x:ByteArray}(hx:bq x):dy (gk x).1:=by
 have:=Uu hx
 unfold bq at hx
 unfold dy
 omega
set_option maxRecDepth 4000 in
theorem Uw{k:Int}{x:ByteArray}(hx:bq x):A7 k x:=by
 unfold A7
 intro bT
 have dZ: ∀a b,bq a→bq b→bT a b:=by
  intro a b aK ad
  have fD: ∀v:Bool,(v=true→(xQ b)∧tw a)∧(v=false→((k==3)=true→tw x)∧((k==3)=false→((k==12)=true→(xS b)∧vb (gk b).1)∧((k==12)=false→
   ((k==8)=true→((k==8)=true→(ko a)∧ko b)∧((k==8)=false→(k==14)=false→ko x))∧((k==8)=false→((k==9)=true→(ko a)∧ko b)∧((k==9)=false→(k==14)=false→ko x))))):=by
   intro v;exact⟨fun _=>⟨Us ad,Mv aK⟩,fun _=>⟨fun _=>Mv hx,fun _=>⟨fun _=>⟨Ut ad,LO (tz ad)⟩,fun _=>⟨fun _=>⟨fun _=>⟨pg _,pg _⟩,fun _ _=>pg _⟩,fun _=>⟨fun _=>⟨pg _,pg _⟩,fun _ _=>pg _⟩⟩⟩⟩⟩
  exact⟨fun _=>fD _,fun _=>fD _⟩
 have fD: ∀v:Int,v<(x.size:Int)→((decide (v≥0))=true→(eo (ByteArray.size x) none (some v))∧(eo (ByteArray.size x) (some (IntKind.wrap .i64 (v+(1:Int)))) none)∧bT (bw x none (some v)) (bw x (some (IntKind.wrap .i64 (v+(1:Int)))) none))∧((decide (v≥0))=false→bT x (⟨#[]⟩:ByteArray)):=by
  intro v av;exact⟨fun h=>⟨(rM hx h av).1,(rM hx h av).2,dZ _ _ hx.str hx.str⟩,fun _=>dZ _ _ hx (Nat.zero_le _)⟩
 exact⟨fun h=>fD 0 (A6 _ h),fun _=>⟨by decide,fD _ (vm _ _).2⟩⟩
noncomputable def h2(k:Int)(x a b:ByteArray):bf × Bool:=
 bif((k==2)||(k==13))then((⟨k,0,0,⟨(h1 a).1,(h1 a).2.1,(h1 a).2.2.1⟩,⟨(e0 b).1.kind,(e0 b).1.n,(e0 b).1.s⟩,⟨0,⟨#[]⟩,⟨#[]⟩⟩,⟨⟨#[]⟩,⟨0,0,⟨0,⟨#[]⟩,⟨#[]⟩⟩,⟨#[]⟩,⟨0,0,⟨#[]⟩⟩,⟨#[]⟩⟩⟩⟩:bf),((h1 a).2.2.2&&((e0 b).2==0)))
 else bif(k==3)then((⟨k,0,0,⟨0,⟨#[]⟩,⟨#[]⟩⟩,⟨0,0,⟨#[]⟩⟩,⟨(h1 x).1,(h1 x).2.1,(h1 x).2.2.1⟩,⟨⟨#[]⟩,⟨0,0,⟨0,⟨#[]⟩,⟨#[]⟩⟩,⟨#[]⟩,⟨0,0,⟨#[]⟩⟩,⟨#[]⟩⟩⟩⟩:bf),(h1 x).2.2.2)
 else bif(k==12)then((⟨k,0,0,⟨0,⟨#[]⟩,⟨#[]⟩⟩,⟨0,0,⟨#[]⟩⟩,⟨0,⟨#[]⟩,⟨#[]⟩⟩,⟨a,(hC (gk b).1).1⟩⟩:bf),(((gk b).2==0)&&((hC (gk b).1).2==0)))
 else bif((k==8)||(k==9))then((⟨k,(cI a).1,(cI b).1,⟨0,⟨#[]⟩,⟨#[]⟩⟩,⟨0,0,⟨#[]⟩⟩,⟨0,⟨#[]⟩,⟨#[]⟩⟩,⟨⟨#[]⟩,⟨0,0,⟨0,⟨#[]⟩,⟨#[]⟩⟩,⟨#[]⟩,⟨0,0,⟨#[]⟩⟩,⟨#[]⟩⟩⟩⟩:bf),((cI a).2&&(cI b).2))
 else bif(k==14)then((⟨k,0,0,⟨0,⟨#[]⟩,⟨#[]⟩⟩,⟨0,0,⟨#[]⟩⟩,⟨0,⟨#[]⟩,⟨#[]⟩⟩,⟨⟨#[]⟩,⟨0,0,⟨0,⟨#[]⟩,⟨#[]⟩⟩,⟨#[]⟩,⟨0,0,⟨#[]⟩⟩,⟨#[]⟩⟩⟩⟩:bf),true)
 else((⟨k,(cI x).1,0,⟨0,⟨#[]⟩,⟨#[]⟩⟩,⟨0,0,⟨#[]⟩⟩,⟨0,⟨#[]⟩,⟨#[]⟩⟩,⟨⟨#[]⟩,⟨0,0,⟨0,⟨#[]⟩,⟨#[]⟩⟩,⟨#[]⟩,⟨0,0,⟨#[]⟩⟩,⟨#[]⟩⟩⟩⟩:bf),(cI x).2)
theorem My{k:Int}{x a b:ByteArray}(aj:df k)(hx:bq x)(aK:bq a)(ad:bq b):nq (h2 k x a b).1:=by
 have e:bq (⟨#[]⟩:ByteArray):=Nat.zero_le _
 have lZ:lu ⟨0,0,⟨0,⟨#[]⟩,⟨#[]⟩⟩,⟨#[]⟩,⟨0,0,⟨#[]⟩⟩,⟨#[]⟩⟩:=⟨bM,bM,bM,e,e,e,⟨bM,bM,e⟩,e⟩
 have A8:=Mw aK
 have dz:=Mw hx
 have ke:=Mt b
 have vo:=mG a
 have qq:=mG b
 have tA:=mG x
 have q:lu (hC (gk b).1).1:=by
  rw[va (tz ad)];exact Mx _
 unfold h2
 generalize hC (gk b).1=Q at q⊢
 generalize h1 a=A at A8⊢
 generalize h1 x=X at dz⊢
 generalize e0 b=V at ke⊢
 generalize cI a=Ux at vo⊢
 generalize cI b=Uy at qq⊢
 generalize cI x=zcL at tA⊢
 generalize gk b=H
 cases ((k==2)||(k==13))
 ·cases (k==3)
  ·cases (k==12)
   ·cases ((k==8)||(k==9))
    ·cases (k==14)
     ·exact⟨aj,tA,bM,bM,e,e,⟨bM,bM,e⟩,bM,e,e,e,lZ⟩
     ·exact⟨aj,bM,bM,bM,e,e,⟨bM,bM,e⟩,bM,e,e,e,lZ⟩
    ·exact⟨aj,vo,qq,bM,e,e,⟨bM,bM,e⟩,bM,e,e,e,lZ⟩
   ·exact⟨aj,bM,bM,bM,e,e,⟨bM,bM,e⟩,bM,e,e,aK,q⟩
  ·exact⟨aj,bM,bM,bM,e,e,⟨bM,bM,e⟩,dz.d,dz.c,dz.n,e,lZ⟩
 ·exact⟨aj,bM,bM,A8.d,A8.c,A8.n,⟨ke.k,ke.n,ke.s⟩,bM,e,e,e,lZ⟩
theorem Mz(k:Int)(x:ByteArray):mH k x=qp 32 x fun a b _=>h2 k x a b:=by
 unfold mH qp h2
 dsimp only
 generalize e0=f1
 generalize h1=f2
 generalize gk=f3
 generalize cI=f4
 generalize hC=f5
 cases bb .eql (⟨#[32]⟩:ByteArray) x
 ·simp only[cond_false]
  cases decide (gW x (aC (⟨#[32]⟩:ByteArray) 0)≥0)
  ·simp only[cond_false]
   cases (k==2)
   ·cases (k==13)
    ·cases (k==3)
     ·cases (k==12)
      ·cases (k==8)
       ·cases (k==9)
        ·cases (k==14)<;>rfl
        ·rfl
       ·rfl
      ·rfl
     ·rfl
    ·rfl
   ·rfl
  ·simp only[cond_true]
   cases (k==2)
   ·cases (k==13)
    ·cases (k==3)
     ·cases (k==12)
      ·cases (k==8)
       ·cases (k==9)
        ·cases (k==14)<;>rfl
        ·rfl
       ·rfl
      ·rfl
     ·rfl
    ·rfl
   ·rfl
 ·simp only[cond_true]
  cases decide ((0:Int)≥0)
  ·simp only[cond_false]
   cases (k==2)
   ·cases (k==13)
    ·cases (k==3)
     ·cases (k==12)
      ·cases (k==8)
       ·cases (k==9)
        ·cases (k==14)<;>rfl
        ·rfl
       ·rfl
      ·rfl
     ·rfl
    ·rfl
   ·rfl
  ·simp only[cond_true]
   cases (k==2)
   ·cases (k==13)
    ·cases (k==3)
     ·cases (k==12)
      ·cases (k==8)
       ·cases (k==9)
        ·cases (k==14)<;>rfl
        ·rfl
       ·rfl
      ·rfl
     ·rfl
    ·rfl
   ·rfl
theorem Uz{k:Int}{x:ByteArray}(aj:df k)(hx:bq x):nq (mH k x).1:=by
 rw[Mz]
 exact EJ (Q:=fun r:bf × Bool=>nq r.1) hx fun a b _ aK ad=>My aj hx aK ad
end Go.aL
namespace Go.aL
open Go Go.ei
theorem DU{x:ByteArray}(hx:bq x):vp x:=by
 unfold vp
 intro bT
 have dZ: ∀a b,bq b→bT a b:=by
  intro a b ad;exact⟨fun _ _=>True,trivial,fun i d _ _=>⟨fun _=>trivial,fun _=>⟨Uw ad,EB (Uz (vl _) ad),fun _=>trivial⟩⟩⟩
 have fD: ∀v:Int,v<(x.size:Int)→((decide (v≥0))=true→(eo (ByteArray.size x) none (some v))∧(eo (ByteArray.size x) (some (IntKind.wrap .i64 (v+(1:Int)))) none)∧bT (bw x none (some v)) (bw x (some (IntKind.wrap .i64 (v+(1:Int)))) none))∧((decide (v≥0))=false→bT x (⟨#[]⟩:ByteArray)):=by
  intro v av;exact⟨fun h=>⟨(rM hx h av).1,(rM hx h av).2,dZ _ _ hx.str⟩,fun _=>dZ _ _ (Nat.zero_le _)⟩
 exact⟨fun h=>fD 0 (A6 _ h),fun _=>⟨by decide,fD _ (vm _ _).2⟩⟩
theorem MA{x:ByteArray}{v:Int}:((bw x (some v) none).size:Int)=(x.size-v.toNat:Nat):=by
 show((ByteArray.extract x v.toNat x.size).size:Int)=_
 rw[ByteArray.size_extract]
 omega
def EL(n:Nat)(d:Int × ByteArray × Bool × List bf × Bool × Int):Nat:=bif d.2.2.1 then(bif d.2.2.2.2.1 then 1 else 2+(n-d.2.2.2.2.2.toNat))else 0
structure EM (x:ByteArray) (d:Int × ByteArray × Bool × List bf × Bool × Int):Prop where
 line:bq d.2.1
 pos:d.2.2.2.2.1=false→0≤d.2.2.2.2.2∧d.2.2.2.2.2≤(x.size:Int)
 gX:0≤d.1∧d.1+(EL x.size d:Int)≤(x.size:Int)+3
 len:(d.2.2.2.1.length:Int)≤d.1
theorem A9{x line:ByteArray}{gX pos:Int}{ok done:Bool}{al:List bf}(aa:bq line)(ae:done=false→0≤pos∧pos≤(x.size:Int))(aq:0≤gX)(aT:gX+((bif ok then(bif done then 1 else 2+(x.size-pos.toNat))else 0:Nat):Int)≤(x.size:Int)+3)(bD:(al.length:Int)≤gX):
 EM x (gX,line,ok,al,done,pos):=⟨aa,ae,⟨aq,aT⟩,bD⟩
theorem UA(x:ByteArray):Ba x:=by
 unfold Ba
 intro ah
 have ah: ¬(x.size:Int)>1048576:=of_decide_eq_false ah
 have hx:bq x:=by unfold bq;omega
 intro aF
 have dZ: ∀(l:ByteArray) (b:Bool) (v:Int),bq l→(b=false→0≤v∧v≤(x.size:Int))→aF l b v:=by
  intro l b v ao av;refine⟨EM x,EL x.size,A9 ao av (Int.le_refl _) ?_ (Int.le_refl _),?_,?_⟩
  ·show(0:Int)+((bif b then 1 else 2+(x.size-v.toNat):Nat):Int)≤_
   cases b<;>simp only[cond_true,cond_false]<;>omega
  ·show(bif b then 1 else 2+(x.size-v.toNat):Nat)<18446744073709551616
   cases b<;>simp only[cond_true,cond_false]<;>omega
  ·intro d0 hd kS
   obtain⟨gX,line,ok,tB,done,pos⟩:=d0
   have kS:ok=true:=kS
   subst kS
   have g1:bq line:=hd.line
   have g2:done=false→0≤pos∧pos≤(x.size:Int):=hd.pos
   have g3:0≤gX:=hd.gX.1
   have g4:gX+((bif done then 1 else 2+(x.size-pos.toNat):Nat):Int)≤(x.size:Int)+3:=hd.gX.2
   have g5:(tB.length:Int)≤gX:=hd.len
   clear hd
   have hc:gX≤(x.size:Int)+2:=by
    cases done<;>simp only[cond_true,cond_false]at g4<;>omega
   have cn:IntKind.wrap .i64 (gX+1)=gX+1:=dw _ (by omega) (by omega)
   intro bT
   have rL: ∀(k:Int) (al:List bf),k=gX+1→(al.length:Int)≤gX+1→bT k al:=by
    intro k al aj ao;subst aj
    cases done with
    |true=>
     have g4:gX+((1:Nat):Int)≤(x.size:Int)+3:=g4
     exact⟨fun _=>⟨A9 (Nat.zero_le _) (fun h=>(by cases h)) (by omega) (by show gX+1+((0:Nat):Int)≤_;omega) ao,show 0<1 by decide⟩,fun h=>(by cases h)⟩
    |false=>
     obtain⟨cN,dA⟩:=g2 rfl
     have g4:gX+((2+(x.size-pos.toNat):Nat):Int)≤(x.size:Int)+3:=g4
     have af:=vm (bw x (some pos) none) 10
     rw[MA]at af;refine⟨fun h=>(by cases h),fun _=>⟨⟨cN,dA⟩,fun _=>⟨⟨cN,dA⟩,?_⟩,fun hn=>?_⟩⟩
     ·exact⟨A9 (line:=bw x (some pos) none) hx.str (fun h=>(by cases h)) (by omega) (by show gX+1+((1:Nat):Int)≤_;omega) ao,show 1<2+(x.size-pos.toNat)by omega⟩
     ·have hn: ¬gW (bw x (some pos) none) 10<0:=of_decide_eq_false hn
      have e:kT (bw x (some pos) none) 10=gW (bw x (some pos) none) 10:=rfl
      show eo x.size (some pos) (some (IntKind.wrap .i64 (pos+kT (bw x (some pos) none) 10)))∧EM x (gX+1,bw x (some pos) (some (IntKind.wrap .i64 (pos+kT (bw x (some pos) none) 10))),true,al,false,IntKind.wrap .i64 (pos+IntKind.wrap .i64 (kT (bw x (some pos) none) 10+1)))∧EL x.size (gX+1,bw x (some pos) (some (IntKind.wrap .i64 (pos+kT (bw x (some pos) none) 10))),true,al,false,IntKind.wrap .i64 (pos+IntKind.wrap .i64 (kT (bw x (some pos) none) 10+1)))<2+(x.size-pos.toNat);rw[e];generalize gW (bw x (some pos) none) 10=q at af hn⊢
      have cH:IntKind.wrap .i64 (pos+q)=pos+q:=dw _ (by omega) (by omega)
      have kh:IntKind.wrap .i64 (q+1)=q+1:=dw _ (by omega) (by omega)
      have qt:IntKind.wrap .i64 (pos+(q+1))=pos+(q+1):=dw _ (by omega) (by omega)
      rw[cH,kh,qt];exact⟨⟨cN,by omega,by omega⟩,A9 (line:=bw x (some pos) (some (pos+q))) hx.str (fun _=>⟨by omega,by omega⟩) (by omega) (by show gX+1+((2+(x.size-(pos+(q+1)).toNat):Nat):Int)≤_;omega) ao,show 2+(x.size-(pos+(q+1)).toNat)<2+(x.size-pos.toNat)by omega⟩
   refine⟨fun h=>⟨Int.le_refl _,tt h⟩,fun _=>rL _ tB cn (show(tB.length:Int)≤gX+1 by omega),fun _=>⟨DU g1,fun _=>⟨⟨?_,?_⟩,rL _ _ cn ?_⟩⟩⟩
   ·show tB.length+1≤maxLen
    unfold maxLen;omega
   ·show(tB.length+1)*272≤_
    omega
   ·show((tB++[(m16 line).1]).length:Int)≤gX+1
    rw[List.length_append];show((tB.length+1:Nat):Int)≤gX+1;omega
 have af:=vm (bw x (some 0) none) 10
 rw[MA]at af
 refine⟨⟨Int.le_refl _,by show(0:Int)≤_;omega⟩,fun _=>⟨⟨Int.le_refl _,by show(0:Int)≤_;omega⟩,dZ _ _ _ hx.str (fun h=>by cases h)⟩,fun hn=>?_⟩
 have hn: ¬gW (bw x (some 0) none) 10<0:=of_decide_eq_false hn
 have e:kT (bw x (some 0) none) 10=gW (bw x (some 0) none) 10:=rfl
 show eo x.size (some (0:Int)) (some (IntKind.wrap .i64 ((0:Int)+kT (bw x (some 0) none) 10)))∧aF (bw x (some 0) (some (IntKind.wrap .i64 ((0:Int)+kT (bw x (some 0) none) 10)))) false (IntKind.wrap .i64 ((0:Int)+IntKind.wrap .i64 (kT (bw x (some 0) none) 10+1)))
 rw[e]
 generalize gW (bw x (some 0) none) 10=q at af hn⊢
 have cH:IntKind.wrap .i64 (0+q)=q:=by rw[dw _ (by omega) (by omega)];omega
 have kh:IntKind.wrap .i64 (q+1)=q+1:=dw _ (by omega) (by omega)
 have qt:IntKind.wrap .i64 (0+(q+1))=q+1:=by rw[dw _ (by omega) (by omega)];omega
 rw[cH,kh,qt]
 exact⟨⟨Int.le_refl _,by omega,by omega⟩,dZ _ _ _ hx.str (fun _=>⟨by omega,by omega⟩)⟩
theorem EN{x:ByteArray}(h:x.size≤1000):bq x:=by unfold bq;omega
theorem K6:xU:=by
 have e:bq (⟨#[]⟩:ByteArray):=Nat.zero_le _
 have s: ∀k:Int, -10≤k→k≤20→df k:=fun k aa ae=>mD (by omega) (by omega)
 have lZ:lu ⟨0,0,⟨0,⟨#[]⟩,⟨#[]⟩⟩,⟨#[]⟩,⟨0,0,⟨#[]⟩⟩,⟨#[]⟩⟩:=⟨bM,bM,bM,e,e,e,⟨bM,bM,e⟩,e⟩
 have ao: ∀i:Nat,(List.getD ([⟨#[116,105,99,107,32,48,53]⟩,⟨#[116,105,99,107]⟩,⟨#[84,105,99,107,32,53]⟩,⟨#[115,101,110,115,101,32,49,46,118,97,108,118,101,46,111,112,101,110,32,110,111,110,101]⟩]:List ByteArray) i (fJ .str)).size≤1000:=by
  intro i
  match i with
  |0=>decide
  |1=>decide
  |2=>decide
  |3=>decide
  |_+4=>exact Nat.zero_le _
 unfold xU
 refine⟨EB ⟨s _ (by decide) (by decide),bM,bM,s _ (by decide) (by decide),EN (by decide),EN (by decide),⟨s _ (by decide) (by decide),s _ (by decide) (by decide),e⟩,bM,e,e,e,lZ⟩,fun _=>⟨EB ⟨s _ (by decide) (by decide),s _ (by decide) (by decide),bM,bM,e,e,⟨bM,bM,e⟩,bM,e,e,e,lZ⟩,fun _=>⟨fun _ _=>True,trivial,fun i d _ _=>⟨DU (EN (ao _)),fun _=>trivial⟩,fun _ _=>UA _⟩⟩⟩
theorem SU:m15=true:=by kernel_rfl
end Go.aL
