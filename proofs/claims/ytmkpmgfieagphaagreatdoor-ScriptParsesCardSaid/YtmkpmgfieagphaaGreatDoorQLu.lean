/- num.Parse, Unhex and the cut at a byte are the reference's. Conditions: none. -/
import Derived.Test.YtmkpmgfieagphaaGreatDoorQLl
namespace Go.aL
open Go Go.ei
def qu(c:Int):Bool:=(decide (c≥48))&&(decide (c≤57))
def ph(a c:Int):Int:=IntKind.wrap .i64 ((IntKind.wrap .i64 ((10:Int)*a))+(IntKind.wrap .i64 (IntKind.wrap .u8 (c-(48:Int)))))
def kp(x:ByteArray):Nat→Nat→Int→Option Int
 |0,_,a=>some a
 |n+1,k,a=>bif qu (aC x (k:Int))then kp x n (k+1) (ph a (aC x (k:Int)))else none
def EO(o:Option Int):(Int × Bool)⊕Int:=match o with
 |none=>.inl (0,false)
 |some v=>.inr v
theorem MB{x:ByteArray}{b:Nat→Int→Step (Int × Bool) Int}(ad: ∀i c,b i c=bif qu (aC x (i:Int))then .bx (ph c (aC x (i:Int)))else bif((decide ((i:Int)>0))||(aC x (i:Int) != 45))then .ret (0,false)else .bx c):
 ∀(n k:Nat) (a:Int),0<k→bV b k n a=EO (kp x n k a):=by
 intro n
 induction n with
 |zero=>intro k a _;rfl
 |succ n aQ=>
  intro k a aj;unfold bV kp;rw[ad]
  cases qu (aC x (k:Int))with
  |true=>exact aQ _ _ (Nat.succ_pos _)
  |false=>
   rw[decide_eq_true (show(k:Int)>0 by omega)]
   rfl
theorem MC{x:ByteArray}{b:Int × Int→Step (Int × Bool) (Int × Int)}(hx:x.size≤14)(ad: ∀c,b c=bif decide (c.2<(x.size:Int))then(bif((decide ((aC x c.2)<48))||(decide ((aC x c.2)>57)))then .ret (0,false)else .bx (ph c.1 (aC x c.2),IntKind.wrap .i64 (c.2+1)))else .b7 (c.1,c.2)):
 ∀(n k f:Nat) (a:Int),k+n=x.size→n<f→b9 b f (a,(k:Int))=match kp x n k a with|none=>.inl (0,false)|some v=>.inr (v,(x.size:Int)):=by
 intro n
 induction n with
 |zero=>
  intro k f a aj hf;obtain⟨f,rfl⟩: ∃g,f=g+1:=⟨f-1,by omega⟩
  unfold b9 kp;rw[ad];dsimp only;rw[decide_eq_false (show ¬(k:Int)<(x.size:Int)by omega)]
  have:k=x.size:=by omega
  subst this;rfl
 |succ n aQ=>
  intro k f a aj hf;obtain⟨f,rfl⟩: ∃g,f=g+1:=⟨f-1,by omega⟩
  unfold b9 kp;rw[ad];dsimp only;rw[decide_eq_true (show(k:Int)<(x.size:Int)by omega)]
  have hd:qu (aC x (k:Int))= !((decide ((aC x (k:Int))<48))||(decide ((aC x (k:Int))>57))):=by
   unfold qu;generalize aC x (k:Int)=z
   by_cases aa:z<48
   ·rw[decide_eq_true aa,decide_eq_false (show ¬z≥48 by omega)];rfl
   ·by_cases ae:z>57
    ·rw[decide_eq_true ae,decide_eq_false (show ¬z≤57 by omega),Bool.and_false,Bool.or_true];rfl
    ·rw[decide_eq_false aa,decide_eq_false ae,decide_eq_true (show z≥48 by omega),decide_eq_true (show z≤57 by omega)];rfl
  rw[hd]
  cases ((decide ((aC x (k:Int))<48))||(decide ((aC x (k:Int))>57)))with
  |true=>rfl
  |false=>
   have w:IntKind.wrap .i64 ((k:Int)+1)=((k+1:Nat):Int):=by rw[dw _ (by omega) (by omega)];omega
   simp only[cond_true,cond_false,Bool.not_false];rw[w];exact aQ (k+1) f _ (by omega) (by omega)
noncomputable def xV(x:ByteArray)(o:Option Int):Int × Bool:=match o with
 |none=>(0,false)
 |some a=>bif((hO (bif(aC x 0==45)then IntKind.wrap .i64 (0-a)else a) != (bif(aC x 0==45)then IntKind.wrap .i64 (0-a)else a))||bb .neq (fI (bif(aC x 0==45)then IntKind.wrap .i64 (0-a)else a)) x)then(0,false)else(bif(aC x 0==45)then IntKind.wrap .i64 (0-a)else a,true)
noncomputable def xW(x:ByteArray):Int × Bool:=bif(((ByteArray.size x:Int)==0)||(decide ((x.size:Int)>14)))then(0,false)else xV x (bif(aC x 0==45)then kp x (x.size-1) 1 0 else kp x x.size 0 0)
theorem UB(x:ByteArray)(v:Int):(bif(hO v != v)then(bif((hO v != v)||(bb .neq (⟨#[]⟩:ByteArray) x))then((0:Int),false)else(v,true))else(bif((hO v != v)||(bb .neq (e6 v) x))then(0,false)else(v,true)))=bif((hO v != v)||bb .neq (fI v) x)then(0,false)else(v,true):=by
 cases (hO v != v)<;>rfl
theorem MD(x:ByteArray):cI x=xW x:=by
 unfold cI xW
 dsimp only
 simp only[UB]
 cases h:(((ByteArray.size x:Int)==0)||(decide ((ByteArray.size x:Int)>14)))with
 |true=>rfl
 |false=>
  simp only[Bool.or_eq_false_iff,beq_eq_false_iff_ne,decide_eq_false_iff_not]at h;obtain⟨aa,ae⟩:=h;simp only[cond_false];rw[Int.toNat_natCast];obtain⟨n,hn⟩: ∃n,x.size=n+1:=⟨x.size-1,by omega⟩
  show Sum.elim (fun r=>r) (fun bj=>bif(aC x 0==45)then _ else _) (bV (fun(i:Nat) (c:Int)=>(bif qu (aC x (i:Int))then .bx (ph c (aC x (i:Int)))else bif((decide ((i:Int)>0))||(aC x (i:Int) != 45))then .ret (0,false)else .bx c:Step (Int × Bool) Int)) 0 x.size 0)=_
  have ao:(bV (fun(i:Nat) (c:Int)=>(bif qu (aC x (i:Int))then .bx (ph c (aC x (i:Int)))else bif((decide ((i:Int)>0))||(aC x (i:Int) != 45))then .ret (0,false)else .bx c:Step (Int × Bool) Int)) 0 x.size 0)=EO (bif(aC x 0==45)then kp x (x.size-1) 1 0 else kp x x.size 0 0):=by
   rw[hn,Nat.add_sub_cancel];unfold bV
   by_cases rN:aC x 0=45
   ·have e:aC x ((0:Nat):Int)=45:=rN
    rw[e,rN];show bV _ 1 n 0=_;rw[MB (x:=x) (fun _ _=>rfl) n 1 0 (by decide)]
    rfl
   ·have e:(aC x 0==45)=false:=by simpa using rN
    have aV:(aC x ((0:Nat):Int) != 45)=true:=by simpa using rN
    rw[e,cond_false,aV,Bool.or_true];show _=EO (bif qu (aC x ((0:Nat):Int))then kp x n 1 (ph 0 (aC x ((0:Nat):Int)))else none)
    cases qu (aC x ((0:Nat):Int))with
    |true=>
     show bV _ 1 n _=_;rw[MB (x:=x) (fun _ _=>rfl) n 1 _ (by decide)]
     rfl
    |false=>rfl
  rw[ao]
  cases (bif(aC x 0==45)then kp x (x.size-1) 1 0 else kp x x.size 0 0)with
  |none=>rfl
  |some a=>
   unfold xV
   cases h:(aC x 0==45)<;>rfl
theorem ME(v:Int):(hO v != v)=((decide (v>1099511627776))||(decide (v<(-1099511627776)))):=by
 have e:hO v=if(1099511627776:Int)<(if(-1099511627776:Int)>v then(-1099511627776:Int)else v)then(1099511627776:Int)else(if(-1099511627776:Int)>v then(-1099511627776:Int)else v):=rfl
 rw[e]
 by_cases aa:v>1099511627776
 ·have i1:(if(-1099511627776:Int)>v then(-1099511627776:Int)else v)=v:=if_neg (by omega)
  rw[i1,if_pos (show(1099511627776:Int)<v by omega),decide_eq_true aa,Bool.true_or,bne_iff_ne]
  omega
 ·by_cases ae:v< -1099511627776
  ·have i1:(if(-1099511627776:Int)>v then(-1099511627776:Int)else v)= -1099511627776:=if_pos (by omega)
   rw[i1,if_neg (show ¬(1099511627776:Int)< -1099511627776 by decide),decide_eq_true ae,Bool.or_true,bne_iff_ne]
   omega
  ·have i1:(if(-1099511627776:Int)>v then(-1099511627776:Int)else v)=v:=if_neg (by omega)
   rw[i1,if_neg (show ¬(1099511627776:Int)<v by omega),decide_eq_false aa,decide_eq_false ae]
   simp
theorem UC(x:ByteArray):hP x=xW x:=by
 unfold hP xW
 dsimp only
 by_cases l0:(x.size:Int)>14
 ·rw[decide_eq_true l0,Bool.or_true]
  rfl
 ·rw[decide_eq_false l0,Bool.or_false,cond_false]
  by_cases aS:(x.size:Int)=0
  ·have hx:x=⟨#[]⟩:=by
    have:x.size=0:=by omega
    exact ByteArray.ext (Array.eq_empty_of_size_eq_zero this)
   subst hx;rfl
  ·have lV:((x.size:Int)==0)=false:=by simpa using aS
   have he:bb .eql x (⟨#[]⟩:ByteArray)=false:=by
    show bn x ⟨#[]⟩=false;rw[tu];intro h;subst h;exact aS rfl
   rw[lV,cond_false,he,decide_eq_true (show(x.size:Int)>0 by omega),Bool.true_and]
   simp only[Bool.false_or]
   cases rN:(aC x 0==45)with
   |true=>
    simp only[cond_true]
    have ao:=MC (x:=x) (b:=fun(aA:Int × Int)=>bif decide (aA.2<(x.size:Int))then(bif((decide ((aC x aA.2)<48))||(decide ((aC x aA.2)>57)))then .ret (0,false)else .bx (ph aA.1 (aC x aA.2),IntKind.wrap .i64 (aA.2+1)))else .b7 (aA.1,aA.2)) (by omega) (fun _=>rfl) (x.size-1) 1 cu 0 (by omega) (by unfold cu;omega)
    show Sum.elim _ _ (b9 (fun(aA:Int × Int)=>bif decide (aA.2<(x.size:Int))then(bif((decide ((aC x aA.2)<48))||(decide ((aC x aA.2)>57)))then .ret (0,false)else .bx (ph aA.1 (aC x aA.2),IntKind.wrap .i64 (aA.2+1)))else .b7 (aA.1,aA.2):Int × Int→Step (Int × Bool) (Int × Int)) cu (0,((1:Nat):Int)))=_
    rw[ao]
    cases kp x (x.size-1) 1 0 with
    |none=>rfl
    |some a=>
     simp only[xV,rN,cond_true,ME];dsimp only[Sum.elim];show(bif((decide (IntKind.wrap .i64 (0-a)>1099511627776))||(decide (IntKind.wrap .i64 (0-a)< -1099511627776)))then _ else _)=_
     cases ((decide (IntKind.wrap .i64 (0-a)>1099511627776))||(decide (IntKind.wrap .i64 (0-a)< -1099511627776)))<;>rfl
   |false=>
    simp only[cond_false]
    have ao:=MC (x:=x) (b:=fun(aA:Int × Int)=>bif decide (aA.2<(x.size:Int))then(bif((decide ((aC x aA.2)<48))||(decide ((aC x aA.2)>57)))then .ret (0,false)else .bx (ph aA.1 (aC x aA.2),IntKind.wrap .i64 (aA.2+1)))else .b7 (aA.1,aA.2)) (by omega) (fun _=>rfl) x.size 0 cu 0 (by omega) (by unfold cu;omega)
    show Sum.elim _ _ (b9 (fun(aA:Int × Int)=>bif decide (aA.2<(x.size:Int))then(bif((decide ((aC x aA.2)<48))||(decide ((aC x aA.2)>57)))then .ret (0,false)else .bx (ph aA.1 (aC x aA.2),IntKind.wrap .i64 (aA.2+1)))else .b7 (aA.1,aA.2):Int × Int→Step (Int × Bool) (Int × Int)) cu (0,((0:Nat):Int)))=_
    rw[ao]
    cases kp x x.size 0 0 with
    |none=>rfl
    |some a=>
     simp only[xV,rN,cond_false,ME];dsimp only[Sum.elim];show(bif((decide (a>1099511627776))||(decide (a< -1099511627776)))then _ else _)=_
     cases ((decide (a>1099511627776))||(decide (a< -1099511627776)))<;>rfl
theorem Bb(x:ByteArray):hP x=cI x:=by rw[UC,MD]
end Go.aL
namespace Go.aL
open Go Go.ei
theorem MF{R:Type}{p:Nat→Bool}{f:Nat→R}{b:Nat→Unit→Step R Unit}(ad: ∀i c,b i c=bif p i then .ret (f i)else .bx ()):
 ∀(n k:Nat),bV b k n ()=match(List.range' k n).find? p with|some i=>.inl (f i)|none=>.inr ():=by
 intro n
 induction n with
 |zero=>intro k;rfl
 |succ n aQ=>
  intro k;unfold bV;rw[ad,List.range'_succ,List.find?_cons]
  cases p k with
  |true=>rfl
  |false=>exact aQ (k+1)
theorem UD{x:ByteArray}{i:Nat}(h:i<x.size)(c:UInt8):(aC x (i:Int)==(c.toNat:Int))=(x[i]! ==c):=by
 obtain⟨_,e⟩:=xC h
 have aV:x[i]! =x.data.toList.getD i 0:=by
  rw[getElem!_pos x i h,List.getD_eq_getElem?_getD,List.getElem?_eq_getElem (show i<x.data.toList.length from h)]
  rfl
 rw[e,aV]
 generalize x.data.toList.getD i 0=a
 by_cases h:a=c
 ·subst h;simp
 ·have aa:(a==c)=false:=by simpa using h
  rw[aa,beq_eq_false_iff_ne];intro ae;exact h (UInt8.toNat_inj.1 (by omega))
theorem UE(x:ByteArray)(c:UInt8):gW x (c.toNat:Int)=match(List.range' 0 x.size).find? (fun i:Nat=>aC x (i:Int)==(c.toNat:Int))with|some i=>(i:Int)|none=> -1:=by
 have e:(List.range' 0 x.size).find? (fun i:Nat=>aC x (i:Int)==(c.toNat:Int))=(List.range x.size).find? fun i:Nat=>x[i]! ==(c.toNat:Int).toNat.toUInt8:=by
  rw[List.range_eq_range']
  have hc:((c.toNat:Int).toNat.toUInt8:UInt8)=c:=by rw[Int.toNat_natCast];exact UInt8.ofNat_toNat
  rw[hc]
  have: ∀l:List Nat,(∀i∈l,i<x.size)→l.find? (fun i:Nat=>aC x (i:Int)==(c.toNat:Int))=l.find? fun i:Nat=>x[i]! ==c:=by
   intro l
   induction l with
   |nil=>intro _;rfl
   |cons a l aQ=>
    intro h;rw[List.find?_cons,List.find?_cons,UD (h a (List.mem_cons_self ..)) c,aQ fun i hi=>h i (List.mem_cons_of_mem _ hi)]
  exact this _ fun i hi=>by rw[List.mem_range'_1]at hi;omega
 rw[e]
 rfl
def aO(c:UInt8)(x:ByteArray):ByteArray × ByteArray × Bool:=match(List.range' 0 x.size).find? (fun i:Nat=>aC x (i:Int)==(c.toNat:Int))with
 |some i=>(x.extract 0 i,x.extract (i+1) x.size,true)
 |none=>(x,⟨#[]⟩,false)
theorem tC{x:ByteArray}(hx:bq x)(c:UInt8):cY x (c.toNat:Int)=((aO c x).1,(aO c x).2.1):=by
 unfold bq at hx
 have h:=MF (p:=fun i:Nat=>aC x (i:Int)==(c.toNat:Int)) (f:=fun i:Nat=>((bw x none (some (i:Int))),(bw x (some (IntKind.wrap .i64 ((i:Int)+(1:Int)))) none))) (b:=fun(i3:Nat) (_:Unit)=>bif((aC x (i3:Int))==(c.toNat:Int))then Step.ret ((bw x none (some (i3:Int))),(bw x (some (IntKind.wrap .i64 ((i3:Int)+(1:Int)))) none))else .bx ()) (fun _ _=>rfl) x.size 0
 unfold cY
 dsimp only
 rw[Int.toNat_natCast]
 show Sum.elim _ _ (bV (fun(i3:Nat) (_:Unit)=>bif((aC x (i3:Int))==(c.toNat:Int))then Step.ret ((bw x none (some (i3:Int))),(bw x (some (IntKind.wrap .i64 ((i3:Int)+(1:Int)))) none))else .bx ()) 0 x.size ())=_
 rw[h]
 unfold aO
 cases hf:(List.range' 0 x.size).find? (fun i:Nat=>aC x (i:Int)==(c.toNat:Int))with
 |none=>rfl
 |some i=>
  have hi:=List.mem_of_find?_eq_some hf
  rw[List.mem_range'_1]at hi
  have w:IntKind.wrap .i64 ((i:Int)+(1:Int))=((i+1:Nat):Int):=by rw[dw _ (by omega) (by omega)];omega
  show(x.extract 0 ((i:Int)).toNat,x.extract (IntKind.wrap .i64 ((i:Int)+(1:Int))).toNat x.size)=_;rw[w,Int.toNat_natCast,Int.toNat_natCast]
theorem MG(c:UInt8):aC (⟨#[c]⟩:ByteArray) 0=(c.toNat:Int):=rfl
theorem vq{α:Type}{x:ByteArray}(hx:bq x)(c:UInt8)(K:ByteArray→ByteArray→Bool→α):qp c x K=K (aO c x).1 (aO c x).2.1 (aO c x).2.2:=by
 unfold bq at hx
 have UF:(bif decide (gW x (aC (⟨#[c]⟩:ByteArray) 0)≥0)then K (bw x none (some (gW x (aC (⟨#[c]⟩:ByteArray) 0)))) (bw x (some (IntKind.wrap .i64 (gW x (aC (⟨#[c]⟩:ByteArray) 0)+(1:Int)))) none) true else K x (⟨#[]⟩:ByteArray) false)=K (aO c x).1 (aO c x).2.1 (aO c x).2.2:=by
  rw[MG,UE];unfold aO
  cases hf:(List.range' 0 x.size).find? (fun i:Nat=>aC x (i:Int)==(c.toNat:Int))with
  |none=>rfl
  |some i=>
   have hi:=List.mem_of_find?_eq_some hf
   rw[List.mem_range'_1]at hi
   have w:IntKind.wrap .i64 ((i:Int)+(1:Int))=((i+1:Nat):Int):=by rw[dw _ (by omega) (by omega)];omega
   dsimp only;rw[decide_eq_true (show(i:Int)≥0 by omega),cond_true,w]
   show K (x.extract 0 ((i:Int)).toNat) (x.extract (((i+1:Nat):Int)).toNat x.size) true=_;rw[Int.toNat_natCast,Int.toNat_natCast]
 unfold qp
 rw[UF]
 cases h:bb .eql (⟨#[c]⟩:ByteArray) x with
 |false=>rfl
 |true=>
  have h:bn (⟨#[c]⟩:ByteArray) x=true:=h
  rw[xN]at h;subst h;rw[cond_true,decide_eq_true (show(0:Int)≥0 by decide),cond_true]
  have hf:aO c (⟨#[c]⟩:ByteArray)=((⟨#[c]⟩:ByteArray).extract 0 0,(⟨#[c]⟩:ByteArray).extract 1 1,true):=by
   unfold aO
   have:(List.range' 0 (⟨#[c]⟩:ByteArray).size).find? (fun i:Nat=>aC (⟨#[c]⟩:ByteArray) (i:Int)==(c.toNat:Int))=some 0:=by
    show(List.range' 0 1).find? _=_;rw[List.range'_succ,List.find?_cons]
    have:(aC (⟨#[c]⟩:ByteArray) ((0:Nat):Int)==(c.toNat:Int))=true:=by
     rw[beq_iff_eq];exact MG c
    rw[this]
   rw[this];rfl
  rw[hf];rfl
theorem kJ{c:UInt8}{x:ByteArray}(hx:bq x):bq (aO c x).1∧bq (aO c x).2.1:=by
 unfold bq at hx
 unfold aO
 split
 ·unfold bq
  dsimp only;rw[ByteArray.size_extract,ByteArray.size_extract];omega
 ·exact⟨hx,Nat.zero_le _⟩
theorem UG: ∀n:Nat,n<256→tD (n:Int)=tE (n:Int):=by decide+kernel
theorem MH(x:ByteArray):n9 x=gk x:=by
 have h: ∀z:Int,tD (aC x z)=tE (aC x z):=by
  intro z;obtain⟨n,e,hn⟩:=qi x z;rw[e];exact UG n hn
 unfold n9 gk
 simp only[h]
 rfl
end Go.aL
namespace Go.aL
open Go Go.ei
noncomputable def dV(u:UInt8):List UInt8:=(lv (u.toNat:Int)).data.toList
theorem MI(l:List UInt8):(l.map fun u=>(u.toNat:Int)).map (fun n=>UInt8.ofNat n.toNat)=l:=by
 rw[List.map_map]
 conv=>rhs;rw[←List.map_id l]
 apply List.map_congr_left
 intro u _
 show UInt8.ofNat ((u.toNat:Int)).toNat=u
 rw[Int.toNat_natCast]
 exact UInt8.ofNat_toNat
theorem MJ(s:ByteArray):bytesOf (s.data.toList.map fun u=>(u.toNat:Int))=s:=o3 (by rw[Aq,MI])
theorem UH(s:ByteArray): ∀(n k:Nat),k+n=s.size→(n7 (fun i=>qj (aC s (i:Int))) k n).map (fun n=>UInt8.ofNat n.toNat)=(s.data.toList.drop k).flatMap dV:=by
 intro n
 induction n with
 |zero=>
  intro k aj;rw[List.drop_eq_nil_of_le (show s.data.toList.length≤k by have:s.data.toList.length=s.size:=rfl;omega)]
  rfl
 |succ n aQ=>
  intro k aj
  have ao:k<s.data.toList.length:=by have:s.data.toList.length=s.size:=rfl;omega
  rw[n7,List.map_append,aQ (k+1) (by omega),List.drop_eq_getElem_cons ao,List.flatMap_cons]
  congr 1
  have e:aC s (k:Int)=((s.data.toList[k]'ao).toNat:Int):=by
   rw[(xC (s:=s) (by omega)).2,List.getD_eq_getElem?_getD,List.getElem?_eq_getElem ao]
   rfl
  rw[e];show((dV _).map fun u=>(u.toNat:Int)).map _=_;rw[MI]
theorem EP(s:ByteArray):(mE s).data.toList=34::(s.data.toList.flatMap dV++[34]):=by
 unfold mE
 rw[Aq,List.map_append,List.map_append,UH s s.size 0 (by omega)]
 rfl
inductive Bc (u:UInt8):Prop
 |one:dV u=[u]→u≠34→u≠92→Bc u
 |two:dV u=[92,u]→(u=34∨u=92)→Bc u
 |four (a b:UInt8):dV u=[92,120,a,b]→0≤jj (a.toNat:Int)→0≤jj (b.toNat:Int)→
  IntKind.wrap .u8 (aZ .or .i64 (aZ .shl .i64 (jj (a.toNat:Int)) (4:Int)) (jj (b.toNat:Int)))=(u.toNat:Int)→0≤hQ (a.toNat:Int)→0≤hQ (b.toNat:Int)→
  IntKind.wrap .u8 (IntKind.wrap .i64 ((IntKind.wrap .i64 ((16:Int)*hQ (a.toNat:Int)))+hQ (b.toNat:Int)))=(u.toNat:Int)→Bc u
theorem UI: ∀n:Nat,n<256→(dV (UInt8.ofNat n)=[UInt8.ofNat n]∧UInt8.ofNat n≠34∧UInt8.ofNat n≠92)∨(dV (UInt8.ofNat n)=[92,UInt8.ofNat n]∧(UInt8.ofNat n=34∨UInt8.ofNat n=92))∨
 (dV (UInt8.ofNat n)=[92,120,(dV (UInt8.ofNat n)).getD 2 0,(dV (UInt8.ofNat n)).getD 3 0]∧0≤jj (((dV (UInt8.ofNat n)).getD 2 0).toNat:Int)∧0≤jj (((dV (UInt8.ofNat n)).getD 3 0).toNat:Int)∧
  IntKind.wrap .u8 (aZ .or .i64 (aZ .shl .i64 (jj (((dV (UInt8.ofNat n)).getD 2 0).toNat:Int)) (4:Int)) (jj (((dV (UInt8.ofNat n)).getD 3 0).toNat:Int)))=(n:Int)∧0≤hQ (((dV (UInt8.ofNat n)).getD 2 0).toNat:Int)∧0≤hQ (((dV (UInt8.ofNat n)).getD 3 0).toNat:Int)∧
  IntKind.wrap .u8 (IntKind.wrap .i64 ((IntKind.wrap .i64 ((16:Int)*hQ (((dV (UInt8.ofNat n)).getD 2 0).toNat:Int)))+hQ (((dV (UInt8.ofNat n)).getD 3 0).toNat:Int)))=(n:Int)):=by decide+kernel
theorem ER(u:UInt8):Bc u:=by
 have h:=UI u.toNat (UInt8.toNat_lt u)
 rw[show UInt8.ofNat u.toNat=u from UInt8.ofNat_toNat]at h
 rcases h with⟨aa,ae,aq⟩|⟨aa,ae⟩|⟨aa,ae,aq,aT,bD,cA,dx⟩
 ·exact .one aa ae aq
 ·exact .two aa ae
 ·exact .four _ _ aa ae aq aT bD cA dx
theorem kU{x:ByteArray}{l:List UInt8}(h:x.data.toList=l)(k:Nat):aC x (k:Int)=((l.getD k 0).toNat:Int):=by
 subst h
 unfold aC
 rw[Int.toNat_natCast]
theorem oa{x:ByteArray}{l:List UInt8}(h:x.data.toList=l):x.size=l.length:=by subst h;rfl
theorem ES{x:ByteArray}{l:List UInt8}(h:x.data.toList=l)(k:Nat):(bw x none (some (k:Int))).data.toList=l.take k:=by
 subst h
 show(x.extract 0 ((k:Int)).toNat).data.toList=_
 rw[Int.toNat_natCast,ByteArray.data_extract,Array.toList_extract]
 simp[List.extract]
theorem UJ{x:ByteArray}{l:List UInt8}(h:x.data.toList=l)(k:Nat):(bw x (some (k:Int)) none).data.toList=l.drop k:=by
 subst h
 show(x.extract ((k:Int)).toNat x.size).data.toList=_
 rw[Int.toNat_natCast,p8]
theorem ne_nil{x:ByteArray}{a:UInt8}{l:List UInt8}(h:x.data.toList=a::l):bb .eql x (⟨#[]⟩:ByteArray)=false:=by
 show bn x ⟨#[]⟩=false
 rw[tu]
 intro e
 rw[e]at h
 cases h
theorem xX{a b:ByteArray}(h:a=b):bb .neq a b=false:=by
 show(!bn a b)=false
 rw[h,An]
 rfl
theorem vr{a b:UInt8}:(a.toNat:Int)=(b.toNat:Int)↔a=b:=by
 rw[Int.ofNat_inj,UInt8.toNat_inj]
theorem UK{y:ByteArray}{u:UInt8}{t:List UInt8}(h:y.data.toList=dV u++t):fC y=((u.toNat:Int),((dV u).length:Int)):=by
 rcases ER u with⟨aa,ae,aq⟩|⟨aa,ae⟩|⟨a,b,aa,ae,aq,aT,bD,cA,dx⟩
 ·have ao:y.data.toList=u::t:=by rw[h,aa];rfl
  have gl:aC y 0=(u.toNat:Int):=kU ao 0
  have xY:(aC y 0==34)=false:=by rw[gl,beq_eq_false_iff_ne];exact fun e=>ae (vr.1 (show(u.toNat:Int)=((34:UInt8).toNat:Int)from e))
  have ET:(aC y 0 != 92)=true:=by rw[gl,bne_iff_ne];exact fun e=>aq (vr.1 (show(u.toNat:Int)=((92:UInt8).toNat:Int)from e))
  have ay:bb .neq (lv (aC y 0)) (bw y none (some 1))=false:=xX (o3 (by
   have o4:(bw y none (some 1)).data.toList=List.take 1 (u::t):=ES ao 1
   rw[gl,o4];show dV u=_;rw[aa]
   rfl))
  unfold fC;rw[ne_nil ao,xY,ET,ay,gl,aa];rfl
 ·have ao:y.data.toList=92::u::t:=by rw[h,aa];rfl
  have gl:aC y 0=92:=kU ao 0
  have eY:aC y 1=(u.toNat:Int):=kU ao 1
  have ah:(y.size:Int)≥2:=by rw[oa ao];simp only[List.length_cons];omega
  have ay:((aC y 1==34)||(aC y 1==92))=true:=by
   rw[eY]
   rcases ae with e|e<;>subst e<;>rfl
  unfold fC;rw[ne_nil ao,gl,aa];dsimp only;rw[ay,decide_eq_true ah,eY];rfl
 ·have ao:y.data.toList=92::120::a::b::t:=by rw[h,aa];rfl
  have gl:aC y 0=92:=kU ao 0
  have eY:aC y 1=120:=kU ao 1
  have gH:aC y 2=(a.toNat:Int):=kU ao 2
  have fX:aC y 3=(b.toNat:Int):=kU ao 3
  have ah:(y.size:Int)≥4:=by rw[oa ao];simp only[List.length_cons];omega
  have ay:bb .neq (lv (u.toNat:Int)) (bw y none (some 4))=false:=xX (o3 (by
   have o4:(bw y none (some 4)).data.toList=List.take 4 (92::120::a::b::t):=ES ao 4
   rw[o4];show dV u=_;rw[aa]
   rfl))
  unfold fC;rw[ne_nil ao,gl,eY,gH,fX,aa];dsimp only;rw[decide_eq_true (show(y.size:Int)≥2 by omega),decide_eq_false (show ¬(y.size:Int)<4 by omega),decide_eq_false (show ¬jj (a.toNat:Int)<0 by omega),decide_eq_false (show ¬jj (b.toNat:Int)<0 by omega),aT,ay]
  rfl
theorem EU(u:UInt8): ∃a l,dV u=a::l∧a≠34:=by
 rcases ER u with⟨aa,ae,_⟩|⟨aa,_⟩|⟨a,b,aa,_⟩
 ·exact⟨_,_,aa,ae⟩
 ·exact⟨_,_,aa,by decide⟩
 ·exact⟨_,_,aa,by decide⟩
theorem Bd(p l:List UInt8):(p++l).getD p.length 0=l.getD 0 0:=by
 rw[List.getD_eq_getElem?_getD,List.getElem?_append_right (Nat.le_refl _),Nat.sub_self,List.getD_eq_getElem?_getD]
theorem UL{x:ByteArray}(hx:bq x){B:Int × List Int × Bool→Step (ByteArray × Int) (Int × List Int × Bool)}
 (fV: ∀aA,B aA=bif((decide (aA.1<(ByteArray.size x:Int)))&&((aC x aA.1) != 34))then(bif((fC (bw x (some aA.1) none)).2==0)then .ret (⟨#[]⟩,0)else bif !aA.2.2 then .bx ((IntKind.wrap .i64 (aA.1+(fC (bw x (some aA.1) none)).2)),(List.append aA.2.1 ([(fC (bw x (some aA.1) none)).1]:List Int)),true)else .bx ((IntKind.wrap .i64 (aA.1+(fC (bw x (some aA.1) none)).2)),(List.append aA.2.1 ([(fC (bw x (some aA.1) none)).1]:List Int)),aA.2.2))else .b7 (aA.1,aA.2.1,aA.2.2)):
 ∀(us pre:List UInt8) (acc:List Int) (rO:Bool) (f:Nat),x.data.toList=pre++(us.flatMap dV++[34])→us.length<f→
  ∃EV,b9 B f ((pre.length:Int),acc,rO)= .inr (((x.size-1:Nat):Int),acc++us.map (fun u=>(u.toNat:Int)),EV):=by
 intro us
 induction us with
 |nil=>
  intro pre acc rO f h hf;obtain⟨f,rfl⟩: ∃g,f=g+1:=⟨f-1,by omega⟩
  have b:aC x (pre.length:Int)=34:=by
   rw[kU h,Bd];rfl
  have ah:x.size=pre.length+1:=by rw[oa h];simp
  refine⟨rO,?_⟩
  unfold b9;rw[fV];dsimp only;rw[b];simp only[bne_self_eq_false,Bool.and_false,cond_false];rw[ah,Nat.add_sub_cancel,List.map_nil,List.append_nil]
 |cons u us aQ=>
  intro pre acc rO f h hf;obtain⟨f,rfl⟩: ∃g,f=g+1:=⟨f-1,by omega⟩
  obtain⟨a,l,aK,hn⟩:=EU u;rw[List.flatMap_cons,List.append_assoc]at h
  have b:aC x (pre.length:Int)=(a.toNat:Int):=by
   rw[kU h,Bd,aK];rfl
  have xY:(aC x (pre.length:Int) != 34)=true:=by rw[b,bne_iff_ne];exact fun e=>hn (vr.1 (show(a.toNat:Int)=((34:UInt8).toNat:Int)from e))
  have ah:x.size=pre.length+((dV u).length+((us.flatMap dV).length+1)):=by rw[oa h];simp[List.length_append]
  have m:fC (bw x (some (pre.length:Int)) none)=((u.toNat:Int),((dV u).length:Int)):=UK (t:=us.flatMap dV++[34]) (by
   rw[UJ h,List.drop_append_of_le_length (Nat.le_refl _),List.drop_length,List.nil_append])
  have aJ:0<(dV u).length:=by rw[aK];exact Nat.succ_pos _
  unfold bq at hx
  have w:IntKind.wrap .i64 ((pre.length:Int)+((dV u).length:Int))=(((pre++dV u).length:Nat):Int):=by
   rw[List.length_append,dw _ (by omega) (by omega)]
   omega
  obtain⟨EV,hi⟩:=aQ (pre++dV u) (acc++[(u.toNat:Int)]) (bif !rO then true else rO) f (by rw[List.append_assoc];exact h) (by simp only[List.length_cons]at hf;omega)
  refine⟨EV,?_⟩
  unfold b9;rw[fV];dsimp only;rw[xY,decide_eq_true (show(pre.length:Int)<(x.size:Int)by omega),m]
  have n0:(((dV u).length:Int)==0)=false:=by rw[beq_eq_false_iff_ne];omega
  simp only[Bool.and_true,cond_true,n0,cond_false,w];rw[List.append_assoc]at hi
  cases rO
  ·exact hi
  ·exact hi
theorem UM{x s:ByteArray}(hx:bq x)(h:x=mE s):xZ x=(s,(x.size:Int)):=by
 have ao:x.data.toList=34::(s.data.toList.flatMap dV++[34]):=by rw[h,EP]
 have gl:(aC x 0 != 34)=false:=by
  show(aC x ((0:Nat):Int) != 34)=false;rw[kU ao 0];rfl
 have ah:x.size=1+((s.data.toList.flatMap dV).length+1):=by rw[oa ao];simp;omega
 obtain⟨rO,hw⟩:=UL hx (B:=fun aA=>bif((decide (aA.1<(ByteArray.size x:Int)))&&((aC x aA.1) != 34))then(bif((fC (bw x (some aA.1) none)).2==0)then .ret (⟨#[]⟩,0)else bif !aA.2.2 then .bx ((IntKind.wrap .i64 (aA.1+(fC (bw x (some aA.1) none)).2)),(List.append aA.2.1 ([(fC (bw x (some aA.1) none)).1]:List Int)),true)else .bx ((IntKind.wrap .i64 (aA.1+(fC (bw x (some aA.1) none)).2)),(List.append aA.2.1 ([(fC (bw x (some aA.1) none)).1]:List Int)),aA.2.2))else .b7 (aA.1,aA.2.1,aA.2.2)) (fun _=>rfl) s.data.toList [34] [] false cu ao (by
  have:s.data.toList.length≤(s.data.toList.flatMap dV).length:=by
   generalize s.data.toList=us
   induction us with
   |nil=>exact Nat.le_refl _
   |cons u us aQ=>
    obtain⟨a,l,aK,_⟩:=EU u;rw[List.flatMap_cons,List.length_append,aK];simp only[List.length_cons];omega
  unfold bq at hx;unfold cu
  omega)
 unfold xZ
 rw[ne_nil ao,gl]
 simp only[Bool.or_self,cond_false]
 show Sum.elim _ _ (b9 (fun aA=>bif((decide (aA.1<(ByteArray.size x:Int)))&&((aC x aA.1) != 34))then(bif((fC (bw x (some aA.1) none)).2==0)then .ret (⟨#[]⟩,0)else bif !aA.2.2 then .bx ((IntKind.wrap .i64 (aA.1+(fC (bw x (some aA.1) none)).2)),(List.append aA.2.1 ([(fC (bw x (some aA.1) none)).1]:List Int)),true)else .bx ((IntKind.wrap .i64 (aA.1+(fC (bw x (some aA.1) none)).2)),(List.append aA.2.1 ([(fC (bw x (some aA.1) none)).1]:List Int)),aA.2.2))else .b7 (aA.1,aA.2.1,aA.2.2):Int × List Int × Bool→Step (ByteArray × Int) (Int × List Int × Bool)) cu ((([34]:List UInt8).length:Int),[],false))=_
 rw[hw]
 unfold bq at hx
 have w:IntKind.wrap .i64 (((x.size-1:Nat):Int)+1)=(x.size:Int):=by rw[dw _ (by omega) (by omega)];omega
 dsimp only[Sum.elim]
 rw[decide_eq_false (show ¬((x.size-1:Nat):Int)≥(x.size:Int)by omega),cond_false,w,List.nil_append,MJ]
theorem UN{x s:ByteArray}(hx:bq x)(h:x=mE s)(ah:s.size≤60):qo x=(s,0):=by
 have ao:x.data.toList=34::(s.data.toList.flatMap dV++[34]):=by rw[h,EP]
 have br:x.size=1+((s.data.toList.flatMap dV).length+1):=by rw[oa ao];simp;omega
 unfold qo
 rw[UM hx h]
 dsimp only
 have n0:((x.size:Int)==0)=false:=by rw[beq_eq_false_iff_ne];omega
 rw[n0,bne_self_eq_false,decide_eq_false (show ¬(s.size:Int)>60 by omega)]
 rfl
end Go.aL
namespace Go.aL
open Go Go.ei
noncomputable def vt(x:ByteArray)(aA:Int × List Int):Step (ByteArray × Int) (Int × List Int):=
 bif((decide (aA.1<(x.size:Int)))&&((aC x aA.1) != 34))then
  bif((aC x aA.1) != 92)then .bx ((IntKind.wrap .i64 (aA.1+(1:Int))),(List.append aA.2 ([(aC x aA.1)]:List Int)))
  else bif((decide ((IntKind.wrap .i64 (aA.1+(1:Int)))<(x.size:Int)))&&(((aC x (IntKind.wrap .i64 (aA.1+(1:Int))))==34)||((aC x (IntKind.wrap .i64 (aA.1+(1:Int))))==92)))then .bx ((IntKind.wrap .i64 (aA.1+(2:Int))),(List.append aA.2 ([(aC x (IntKind.wrap .i64 (aA.1+(1:Int))))]:List Int)))
  else
   let v31:Bool:=(decide ((IntKind.wrap .i64 (aA.1+(3:Int)))<(x.size:Int)))&&((aC x (IntKind.wrap .i64 (aA.1+(1:Int))))==120)
   let aF:Int→Step (ByteArray × Int) (Int × (List Int)):=fun fr=>
    let kV:Bool:=v31&&(decide (fr≥0))
    let aF:Int→Step (ByteArray × Int) (Int × (List Int)):=fun qv=>
     bif(kV&&(decide (qv≥0)))then
      let v51:List Int:=([(IntKind.wrap .u8 (IntKind.wrap .i64 ((IntKind.wrap .i64 ((16:Int)*(hQ (aC x (IntKind.wrap .i64 (aA.1+(2:Int)))))))+(hQ (aC x (IntKind.wrap .i64 (aA.1+(3:Int))))))))]:List Int)
      .bx ((IntKind.wrap .i64 (aA.1+(4:Int))),(List.append aA.2 v51))
     else .ret (⟨#[]⟩,(-1))
    bif kV then aF (hQ (aC x (IntKind.wrap .i64 (aA.1+(3:Int)))))else aF (0:Int)
   bif v31 then aF (hQ (aC x (IntKind.wrap .i64 (aA.1+(2:Int)))))else aF (0:Int)
 else .b7 (aA.1,aA.2)
theorem UO{x:ByteArray}{p l:List UInt8}(h:x.data.toList=p++l)(hx:bq x)(k:Nat)(aj:k<5):IntKind.wrap .i64 ((p.length:Int)+(k:Int))=((p.length+k:Nat):Int)∧aC x ((p.length+k:Nat):Int)=((l.getD k 0).toNat:Int):=by
 have ah:x.size=p.length+l.length:=by rw[oa h,List.length_append]
 unfold bq at hx
 refine⟨by rw[dw _ (by omega) (by omega)];omega,?_⟩
 rw[kU h,List.getD_eq_getElem?_getD,List.getElem?_append_right (Nat.le_add_right _ _),Nat.add_sub_cancel_left,←List.getD_eq_getElem?_getD]
theorem UP{x:ByteArray}{p t:List UInt8}{u:UInt8}{acc:List Int}(h:x.data.toList=p++(dV u++t))(hx:bq x):vt x ((p.length:Int),acc)= .bx (((p++dV u).length:Nat),acc++[(u.toNat:Int)]):=by
 have g:=UO h hx
 obtain⟨_,gl⟩:=g 0 (by decide)
 obtain⟨cn,eY⟩:=g 1 (by decide)
 obtain⟨cH,gH⟩:=g 2 (by decide)
 obtain⟨kh,fX⟩:=g 3 (by decide)
 obtain⟨qt,_⟩:=g 4 (by decide)
 have ah:x.size=p.length+((dV u).length+t.length):=by rw[oa h,List.length_append,List.length_append]
 have cn:IntKind.wrap .i64 ((p.length:Int)+1)=((p.length+1:Nat):Int):=cn
 have cH:IntKind.wrap .i64 ((p.length:Int)+2)=((p.length+2:Nat):Int):=cH
 have kh:IntKind.wrap .i64 ((p.length:Int)+3)=((p.length+3:Nat):Int):=kh
 have qt:IntKind.wrap .i64 ((p.length:Int)+4)=((p.length+4:Nat):Int):=qt
 have gl:aC x (p.length:Int)=(((dV u++t).getD 0 0).toNat:Int):=gl
 rw[List.length_append]
 unfold vt
 dsimp only
 rw[cn,cH,kh,qt,gl,eY,gH,fX]
 rcases ER u with⟨aa,ae,aq⟩|⟨aa,ae⟩|⟨a,b,aa,ae,aq,aT,bD,cA,dx⟩
 ·rw[aa]at ah⊢
  simp only[List.length_cons,List.length_nil]at ah
  have xY:((((([u]++t).getD 0 0).toNat:Nat):Int) != 34)=true:=by rw[bne_iff_ne];exact fun e=>ae (vr.1 (show(u.toNat:Int)=((34:UInt8).toNat:Int)from e))
  have ET:((((([u]++t).getD 0 0).toNat:Nat):Int) != 92)=true:=by rw[bne_iff_ne];exact fun e=>aq (vr.1 (show(u.toNat:Int)=((92:UInt8).toNat:Int)from e))
  rw[xY,ET,decide_eq_true (show(p.length:Int)<(x.size:Int)by omega)]
  rfl
 ·rw[aa]at ah⊢
  simp only[List.length_cons,List.length_nil]at ah
  have ay:((((([92,u]++t).getD 1 0).toNat:Nat):Int)==34||(((([92,u]++t).getD 1 0).toNat:Nat):Int)==92)=true:=by
   rcases ae with e|e<;>subst e<;>rfl
  rw[decide_eq_true (show(p.length:Int)<(x.size:Int)by omega),decide_eq_true (show((p.length+1:Nat):Int)<(x.size:Int)by omega),ay]
  rfl
 ·rw[aa]at ah⊢
  simp only[List.length_cons,List.length_nil]at ah;rw[decide_eq_true (show(p.length:Int)<(x.size:Int)by omega),decide_eq_true (show((p.length+3:Nat):Int)<(x.size:Int)by omega)]
  have aV:((([92,120,a,b]++t).getD 2 0).toNat:Int)=(a.toNat:Int):=rfl
  have ct:((([92,120,a,b]++t).getD 3 0).toNat:Int)=(b.toNat:Int):=rfl
  have ay:((([92,120,a,b]++t).getD 1 0).toNat:Int)=120:=rfl
  have lV:((([92,120,a,b]++t).getD 0 0).toNat:Int)=92:=rfl
  rw[lV,ay,aV,ct,decide_eq_true (show hQ (a.toNat:Int)≥0 by omega),decide_eq_true (show hQ (b.toNat:Int)≥0 by omega),dx,show((120:Int)==34||(120:Int)==92)=false from rfl,Bool.and_false]
  rfl
theorem UQ{x:ByteArray}(hx:bq x): ∀(us pre:List UInt8) (acc:List Int) (f:Nat),x.data.toList=pre++(us.flatMap dV++[34])→us.length<f→
      b9 (vt x) f ((pre.length:Int),acc)= .inr (((x.size-1:Nat):Int),acc++us.map (fun u=>(u.toNat:Int))):=by
  intro us
  induction us with
  |nil=>
    intro pre acc f h hf;obtain⟨f,rfl⟩: ∃g,f=g+1:=⟨f-1,by omega⟩
    have b:aC x (pre.length:Int)=34:=by
      rw[kU h,Bd];rfl
    have ah:x.size=pre.length+1:=by rw[oa h];simp
    unfold b9 vt;dsimp only;rw[b];simp only[bne_self_eq_false,Bool.and_false,cond_false];rw[ah,Nat.add_sub_cancel,List.map_nil,List.append_nil]
  |cons u us aQ=>
    intro pre acc f h hf;obtain⟨f,rfl⟩: ∃g,f=g+1:=⟨f-1,by omega⟩
    rw[List.flatMap_cons,List.append_assoc]at h
    have hi:=aQ (pre++dV u) (acc++[(u.toNat:Int)]) f (by rw[List.append_assoc];exact h) (by simp only[List.length_cons]at hf;omega)
    unfold b9;rw[UP h hx];rw[List.append_assoc]at hi;exact hi
theorem UR(us:List UInt8):us.length≤(us.flatMap dV).length:=by
 induction us with
 |nil=>exact Nat.le_refl _
 |cons u us aQ=>
  obtain⟨a,l,aK,_⟩:=EU u;rw[List.flatMap_cons,List.length_append,aK];simp only[List.length_cons];omega
theorem US{x s:ByteArray}(hx:bq x)(h:x=mE s):x1 x 0=(s,(x.size:Int)):=by
  have ao:x.data.toList=34::(s.data.toList.flatMap dV++[34]):=by rw[h,EP]
  have gl:(aC x 0 != 34)=false:=by
    show(aC x ((0:Nat):Int) != 34)=false;rw[kU ao 0];rfl
  have ah:x.size=1+((s.data.toList.flatMap dV).length+1):=by rw[oa ao];simp;omega
  have hw:=UQ hx s.data.toList [34] [] cu ao (by
    have:=UR s.data.toList
    unfold bq at hx;unfold cu
    omega)
  unfold bq at hx
  have UT:x1 x 0=(bif((decide ((0:Int)≥(x.size:Int)))||((aC x 0) != 34))then(⟨#[]⟩,(-1))else Sum.elim (fun r=>r) (fun bj=>bif decide (bj.1≥(x.size:Int))then(bif(decide (bj.1≥(x.size:Int))||bb .neq (⟨#[]⟩:ByteArray) (bw x (some 0) (some (IntKind.wrap .i64 (bj.1+(1:Int))))))then(⟨#[]⟩,(-1))else((bytesOf bj.2),(IntKind.wrap .i64 (bj.1+(1:Int)))))
      else(bif(decide (bj.1≥(x.size:Int))||bb .neq (vg (bytesOf bj.2)) (bw x (some 0) (some (IntKind.wrap .i64 (bj.1+(1:Int))))))then(⟨#[]⟩,(-1))else((bytesOf bj.2),(IntKind.wrap .i64 (bj.1+(1:Int)))))) (b9 (vt x) cu (1,[]):(ByteArray × Int)⊕(Int × List Int))):=by kernel_rfl
  have hw:b9 (vt x) cu ((1:Int),[])= .inr (((x.size-1:Nat):Int),[]++s.data.toList.map (fun u=>(u.toNat:Int))):=hw
  rw[UT,gl,decide_eq_false (show ¬(0:Int)≥(x.size:Int)by omega),hw]
  simp only[Bool.or_self,cond_false]
  have w:IntKind.wrap .i64 (((x.size-1:Nat):Int)+1)=(x.size:Int):=by rw[dw _ (by omega) (by omega)];omega
  dsimp only[Sum.elim];rw[decide_eq_false (show ¬((x.size-1:Nat):Int)≥(x.size:Int)by omega),List.nil_append,MJ,w,L3,←h]
  have e:bb .neq x (bw x (some 0) (some (x.size:Int)))=false:=xX (o3 (by
    show _=(x.extract 0 ((x.size:Int)).toNat).data.toList;rw[Int.toNat_natCast,p8]
    rfl))
  rw[e];rfl
theorem UU{x s:ByteArray}(hx:bq x)(h:x=mE s)(ah:s.size≤60):tF x=(s,0):=by
 unfold tF
 rw[US hx h]
 dsimp only
 rw[bne_self_eq_false,decide_eq_false (show ¬(x.size:Int)<0 by omega),decide_eq_false (show ¬(s.size:Int)>60 by omega)]
 rfl
noncomputable def nx(x:ByteArray)(v:bH):bH × Int:=bif(bb .eql x (⟨#[]⟩:ByteArray)||bb .neq (fO v) x)then(⟨0,0,⟨#[]⟩⟩,4)else(v,0)
theorem tG(x:ByteArray)(v:bH):(bif bb .eql x (⟨#[]⟩:ByteArray)then(bif(bb .eql x (⟨#[]⟩:ByteArray)||bb .neq (⟨#[]⟩:ByteArray) x)then((⟨0,0,⟨#[]⟩⟩:bH),(4:Int))else(v,0))else(bif(bb .eql x (⟨#[]⟩:ByteArray)||bb .neq (fO v) x)then((⟨0,0,⟨#[]⟩⟩:bH),(4:Int))else(v,0)))=nx x v:=by
 unfold nx
 cases bb .eql x (⟨#[]⟩:ByteArray)<;>rfl
theorem UW(x:ByteArray):ob x=nx x (qw x):=by
 rw[←tG]
 unfold ob
 dsimp only
 rw[Et]
noncomputable def x2(x:ByteArray):bH:=
 bif(bb .eql x (⟨#[110,111,110,101]⟩:ByteArray))then⟨0,0,⟨#[]⟩⟩
 else bif((bb .eql x (⟨#[116,114,117,101]⟩:ByteArray))||(bb .eql x (⟨#[102,97,108,115,101]⟩:ByteArray)))then(bif(bb .eql x (⟨#[116,114,117,101]⟩:ByteArray))then⟨1,1,⟨#[]⟩⟩else⟨1,0,⟨#[]⟩⟩)
 else bif((bb .neq x (⟨#[]⟩:ByteArray))&&((aC x (0:Int))==35))then⟨3,(cI (bw x (some (1:Int)) none)).1,⟨#[]⟩⟩
 else bif((bb .neq x (⟨#[]⟩:ByteArray))&&((aC x (0:Int))==34))then⟨4,0,(qo x).1⟩
 else⟨2,(cI x).1,⟨#[]⟩⟩
theorem MK(x:ByteArray):e0 x=nx x (x2 x):=by
 unfold e0 x2
 dsimp only
 cases (bb .eql x (⟨#[110,111,110,101]⟩:ByteArray))
 ·simp only[cond_false]
  cases ((bb .eql x (⟨#[116,114,117,101]⟩:ByteArray))||(bb .eql x (⟨#[102,97,108,115,101]⟩:ByteArray)))
  ·simp only[cond_false]
   cases ((bb .neq x (⟨#[]⟩:ByteArray))&&((aC x (0:Int))==35))
   ·simp only[cond_false]
    cases ((bb .neq x (⟨#[]⟩:ByteArray))&&((aC x (0:Int))==34))
    ·exact tG x _
    ·exact tG x _
   ·exact tG x _
  ·simp only[cond_true]
   cases (bb .eql x (⟨#[116,114,117,101]⟩:ByteArray))
   ·exact tG x _
   ·exact tG x _
 ·exact tG x _
theorem Be{x:ByteArray}{v:bH}(h:fO v≠x):nx x v=(⟨0,0,⟨#[]⟩⟩,4):=by
 unfold nx
 have:bb .neq (fO v) x=true:=by
  show(!bn (fO v) x)=true;rw[Bool.not_eq_true',tu];exact h
 rw[this,Bool.or_true]
 rfl
theorem UX{v w:bH}:nx ⟨#[]⟩ v=nx ⟨#[]⟩ w:=by
 have e:bb .eql (⟨#[]⟩:ByteArray) (⟨#[]⟩:ByteArray)=true:=An _
 unfold nx
 rw[e]
 simp only[Bool.true_or,cond_true]
theorem ML{s x:ByteArray}(h:fO ⟨4,0,s⟩=x)(aS:x≠⟨#[]⟩):x=mE s∧s.size≤60:=by
 by_cases hc:eP ⟨4,0,s⟩=0
 ·have av:kf ⟨4,0,s⟩=0:=by rw[←qa];exact hc
  refine⟨?_,xx av⟩
  rw[←h,←Er];unfold fO;rw[hc];kernel_rfl
 ·exfalso
  apply aS;rw[←h];unfold fO;rw[show(eP ⟨4,0,s⟩ != 0)=true by simpa using hc]
  rfl
theorem MM:cI (⟨#[48]⟩:ByteArray)=(0,true):=by kernel_rfl
theorem UY:fO ⟨2,0,⟨#[]⟩⟩=⟨#[48]⟩:=by kernel_rfl
theorem UZ:fO ⟨0,0,⟨#[]⟩⟩=⟨#[110,111,110,101]⟩:=by kernel_rfl
theorem MN{x:ByteArray}(h:(cI x).2=false):(cI x).1=0:=by
 rw[MD]at h⊢
 unfold xW at h⊢
 cases aa:(((ByteArray.size x:Int)==0)||(decide ((x.size:Int)>14)))with
 |true=>rfl
 |false=>
  rw[aa]at h;simp only[cond_false]at h⊢;revert h;generalize (bif(aC x 0==45)then kp x (x.size-1) 1 0 else kp x x.size 0 0)=o
  cases o with
  |none=>intro _;rfl
  |some a=>
   unfold xV;dsimp only;generalize (bif(aC x 0==45)then IntKind.wrap .i64 (0-a)else a)=v
   cases ((hO v != v)||bb .neq (fI v) x)
   ·intro h;cases h
   ·intro _;rfl
theorem U0{x:ByteArray}(hx:bq x):nx x (qw x)=nx x (x2 x):=by
 by_cases aS:x=⟨#[]⟩
 ·subst aS
  exact UX
 by_cases hn:x=⟨#[110,111,110,101]⟩
 ·subst hn
  kernel_rfl
 have vi:bb .eql x (⟨#[110,111,110,101]⟩:ByteArray)=false:=by
  show bn x _=false;rw[tu];exact hn
 unfold qw x2
 rw[vi]
 dsimp only
 simp only[cond_false]
 cases ((bb .eql x (⟨#[116,114,117,101]⟩:ByteArray))||(bb .eql x (⟨#[102,97,108,115,101]⟩:ByteArray)))with
 |true=>
  cases (bb .eql x (⟨#[116,114,117,101]⟩:ByteArray))<;>rfl
 |false=>
  simp only[cond_false]
  cases ((bb .neq x (⟨#[]⟩:ByteArray))&&((aC x (0:Int))==35))with
  |true=>
   simp only[cond_true];rw[Bb]
  |false=>
   simp only[cond_false]
   cases ((bb .neq x (⟨#[]⟩:ByteArray))&&((aC x (0:Int))==34))with
   |true=>
    simp only[cond_true]
    by_cases aa:fO ⟨4,0,(qo x).1⟩=x
    ·obtain⟨e,ah⟩:=ML aa aS
     rw[UU hx e ah]
    ·by_cases ae:fO ⟨4,0,(tF x).1⟩=x
     ·obtain⟨e,ah⟩:=ML ae aS
      rw[UN hx e ah]
     ·rw[Be aa,Be ae]
   |false=>
    simp only[cond_false];rw[Bb]
    cases an:(cI x).2 with
    |true=>rfl
    |false=>
     rw[MN an];simp only[cond_false]
     rw[Be (x:=x) (v:=⟨0,0,⟨#[]⟩⟩) (by rw[UZ];exact fun e=>hn e.symm),Be (x:=x) (v:=⟨2,0,⟨#[]⟩⟩) (by
      rw[UY];intro e;rw[←e,MM]at an
      cases an)]
theorem U1{x:ByteArray}(hx:bq x):ob x=e0 x:=by rw[UW,MK,U0 hx]
end Go.aL
namespace Go.aL
open Go Go.ei
def kW(c:UInt8)(x:ByteArray):Prop:=∀u∈x.data.toList,u≠c
theorem MO{f:Nat→Bool}: ∀(j n k:Nat),(∀i,i<j→f (k+i)=false)→f (k+j)=true→j<n→(List.range' k n).find? f=some (k+j):=by
 intro j
 induction j with
 |zero=>
  intro n k _ h hn;obtain⟨n,rfl⟩: ∃m,n=m+1:=⟨n-1,by omega⟩
  rw[List.range'_succ,List.find?_cons]
  rw[Nat.add_zero]at h;rw[h];rfl
 |succ j aQ=>
  intro n k aK h hn;obtain⟨n,rfl⟩: ∃m,n=m+1:=⟨n-1,by omega⟩
  rw[List.range'_succ,List.find?_cons]
  have aS:=aK 0 (Nat.succ_pos _)
  rw[Nat.add_zero]at aS;rw[aS]
  have:=aQ n (k+1) (fun i hi=>by have:=aK (i+1) (by omega);rwa[show k+1+i=k+(i+1)by omega]) (by rwa[show k+1+j=k+(j+1)by omega]) (by omega)
  rw[show k+(j+1)=k+1+j by omega]
  exact this
theorem MP{x:ByteArray}{l:List UInt8}(h:x.data.toList=l){c:UInt8}{i:Nat}(hi:i<l.length)(hc:l[i]≠c):(aC x (i:Int)==(c.toNat:Int))=false:=by
 rw[kU h,List.getD_eq_getElem?_getD,List.getElem?_eq_getElem hi,beq_eq_false_iff_ne]
 exact fun e=>hc (vr.1 e)
theorem Bf{c:UInt8}{x p s:ByteArray}(h:x.data.toList=p.data.toList++c::s.data.toList)(ak:kW c p):aO c x=(p,s,true):=by
 have ah:x.size=p.size+(s.size+1):=by rw[oa h,List.length_append];rfl
 have pj:p.data.toList.length=p.size:=rfl
 have hf:(List.range' 0 x.size).find? (fun i:Nat=>aC x (i:Int)==(c.toNat:Int))=some (0+p.size):=by
  refine MO _ _ _ (fun i hi=>?_) ?_ (by omega)
  ·rw[Nat.zero_add]
   have jF:i<(p.data.toList++c::s.data.toList).length:=by rw[List.length_append];omega
   refine MP h jF ?_
   rw[List.getElem_append_left (by omega)]
   exact ak _ (List.getElem_mem _)
  ·rw[Nat.zero_add]
   show(aC x (p.size:Int)==(c.toNat:Int))=true;rw[kU h,←pj,Bd,beq_iff_eq];rfl
 unfold aO
 rw[hf]
 dsimp only
 rw[Nat.zero_add]
 have ay:x.extract 0 p.size=p:=o3 (by
  have:=ES h p.size
  have e:(bw x none (some (p.size:Int)))=x.extract 0 p.size:=by show x.extract 0 ((p.size:Int)).toNat=_;rw[Int.toNat_natCast]
  rw[←e,this,←pj,List.take_left])
 have aV:x.extract (p.size+1) x.size=s:=o3 (by
  rw[p8,h,←pj,←List.drop_drop,List.drop_left]
  rfl)
 rw[ay,aV]
theorem MQ{c:UInt8}{x:ByteArray}(ak:kW c x):aO c x=(x,⟨#[]⟩,false):=by
 have hf:(List.range' 0 x.size).find? (fun i:Nat=>aC x (i:Int)==(c.toNat:Int))=none:=by
  rw[List.find?_eq_none]
  intro i hi;rw[List.mem_range'_1]at hi
  have jF:i<x.data.toList.length:=by have:x.data.toList.length=x.size:=rfl;omega
  rw[MP (l:=x.data.toList) rfl jF (ak _ (List.getElem_mem _))];decide
 unfold aO
 rw[hf]
theorem rP(a b:ByteArray):(ByteArray.append a b).data.toList=a.data.toList++b.data.toList:=by
 show(a++b).data.toList=_
 rw[ByteArray.data_append,Array.toList_append]
theorem EW: ∀(f u:Nat),∀b∈pk f u,b≠32∧b≠46
 |0,_,b,h=>by cases h
 |f+1,u,b,h=>by
  have hd: ∀d:Nat,d<10→(UInt8.ofNat (48+d)≠32∧UInt8.ofNat (48+d)≠46):=by decide
  unfold pk at h
  cases hu:Nat.blt u 10 with
  |true=>
   rw[hu]at h;simp only[cond_true,List.mem_singleton]at h;subst h
   have:u<10:=by rw[Nat.blt_eq]at hu;exact hu
   exact hd u this
  |false=>
   rw[hu]at h;simp only[cond_false,List.mem_append,List.mem_singleton]at h
   rcases h with h|h
   ·exact EW f _ b h
   ·subst h
    exact hd _ (Nat.mod_lt _ (by decide))
theorem Bg(n:Int):kW 32 (e6 n)∧kW 46 (e6 n):=by
 have: ∀b∈(fI n).data.toList,b≠32∧b≠46:=by
  unfold fI
  cases decide (n<0)
  ·intro b h
   exact EW _ _ b (by simpa using h)
  ·intro b h
   have h:b=45∨b∈pk 20 n.natAbs:=by simpa using h
   rcases h with h|h
   ·subst h;decide
   ·exact EW _ _ b h
 exact⟨fun b h=>(this b h).1,fun b h=>(this b h).2⟩
theorem U2{P:Int→Int→Bool}{x:ByteArray}: ∀(n k:Nat),jA P x k n=true→∀i,k≤i→i<k+n→P (aC x (i:Int)) (i:Int)=false:=by
 intro n
 induction n with
 |zero=>intro k _ i aa ae;omega
 |succ n aQ=>
  intro k h i aa ae;unfold jA at h
  cases ak:P (aC x (k:Int)) (k:Int)with
  |true=>
   rw[ak]at h;simp at h
  |false=>
   rw[ak]at h
   rcases Nat.eq_or_lt_of_le aa with e|e
   ·subst e;exact ak
   ·exact aQ (k+1) (by simpa using h) i e (by omega)
theorem MR{x:ByteArray}{c:UInt8}{P:Int→Int→Bool}(h:jA P x 0 x.size=true)(hc: ∀i:Int,P (c.toNat:Int) i=true):kW c x:=by
 intro u hu e
 subst e
 obtain⟨i,hi,e⟩:=List.getElem_of_mem hu
 have:=U2 _ _ h i (Nat.zero_le _) (by have:x.data.toList.length=x.size:=rfl;omega)
 rw[kU (l:=x.data.toList) rfl,List.getD_eq_getElem?_getD,List.getElem?_eq_getElem hi]at this
 have aV:(((some (x.data.toList[i])).getD 0).toNat:Int)=(u.toNat:Int):=by rw[e];rfl
 rw[aV,hc]at this
 cases this
theorem EX{x:ByteArray}(h:valid x=true):kW 32 x∧kW 46 x:=by
 unfold valid at h
 have h:jA mC x 0 x.size=true:=by
  cases hc:((decide ((ByteArray.size x:Int)<1))||(decide ((ByteArray.size x:Int)>24)))with
  |true=>rw[hc]at h;cases h
  |false=>rw[hc]at h;exact h
 have ay: ∀i:Int,mC (((32:UInt8).toNat:Int)) i=true:=by
  intro i;show((!(decide ((32:Int)≥97)&&decide ((32:Int)≤122)))&&((i==0)||((((32:Int) != 95)&&((32:Int) != 45))&&((decide ((32:Int)<48))||(decide ((32:Int)>57))))))=true
  cases (i==0)<;>rfl
 have aV: ∀i:Int,mC (((46:UInt8).toNat:Int)) i=true:=by
  intro i;show((!(decide ((46:Int)≥97)&&decide ((46:Int)≤122)))&&((i==0)||((((46:Int) != 95)&&((46:Int) != 45))&&((decide ((46:Int)<48))||(decide ((46:Int)>57))))))=true
  cases (i==0)<;>rfl
 exact⟨MR h ay,MR h aV⟩
end Go.aL
namespace Go.aL
open Go Go.ei
noncomputable def iD(i:Nat):ByteArray:=List.getD ql i (fJ .str)
def qx:List ByteArray:=([⟨#[116,105,99,107]⟩,⟨#[115,101,110,115,101]⟩,⟨#[101,118,101,110,116]⟩,⟨#[110,111,105,115,101]⟩,⟨#[113,117,105,101,116]⟩,⟨#[111,102,102]⟩,⟨#[111,110]⟩,⟨#[99,117,116]⟩,⟨#[106,111,105,110]⟩,⟨#[99,114,97,115,104]⟩,⟨#[99,108,111,99,107]⟩,⟨#[97,115,107]⟩,⟨#[101,110,101,114,103,121]⟩,⟨#[109,111,118,101]⟩,⟨#[108,111,115,101]⟩,⟨#[116,119,105,99,101]⟩]:List ByteArray)
theorem Bh: ∀i:Nat,i<16→hD qx i=iD i:=by decide+kernel
theorem MS: ∀i:Nat,i<16→∀j:Nat,j<16→iD i=iD j→i=j:=by decide+kernel
def vu:bf:=(⟨0,0,0,⟨0,⟨#[]⟩,⟨#[]⟩⟩,⟨0,0,⟨#[]⟩⟩,⟨0,⟨#[]⟩,⟨#[]⟩⟩,⟨⟨#[]⟩,⟨0,0,⟨0,⟨#[]⟩,⟨#[]⟩⟩,⟨#[]⟩,⟨0,0,⟨#[]⟩⟩,⟨#[]⟩⟩⟩⟩:bf)
noncomputable def pn(x:ByteArray)(k:Int)(b:ByteArray):Bool:=((mH k b).2&&((m13 (mH k b).1).2==0))&&bb .eql (m13 (mH k b).1).1 x
theorem U3(x:ByteArray):m16 x=qp 32 x fun a b _=>Sum.elim (fun r=>r) (fun _=>(vu,4)) (bV (fun(i:Nat) (_:Unit)=>(bif bb .neq (hD qx (Int.toNat (i:Int))) a then .bx ()else bif pn x (IntKind.wrap .i64 ((i:Int)+(1:Int))) b then .ret ((mH (IntKind.wrap .i64 ((i:Int)+(1:Int))) b).1,0)else .bx ():Step (bf × Int) Unit)) 0 16 ()):=by kernel_rfl
theorem MT{x:ByteArray}(hx:bq x):m16 x=match(List.range' 0 16).find? (fun i:Nat=>!bb .neq (hD qx i) (aO 32 x).1&&pn x (IntKind.wrap .i64 ((i:Int)+(1:Int))) (aO 32 x).2.1)with
 |some i=>((mH (IntKind.wrap .i64 ((i:Int)+(1:Int))) (aO 32 x).2.1).1,0)
 |none=>(vu,4):=by
 rw[U3,vq hx]
 rw[MF (p:=fun i:Nat=>!bb .neq (hD qx i) (aO 32 x).1&&pn x (IntKind.wrap .i64 ((i:Int)+(1:Int))) (aO 32 x).2.1) (f:=fun i:Nat=>((mH (IntKind.wrap .i64 ((i:Int)+(1:Int))) (aO 32 x).2.1).1,0)) (fun i c=>by
  rw[Int.toNat_natCast]
  cases bb .neq (hD qx i) (aO 32 x).1<;>rfl)]
 cases (List.range' 0 16).find? (fun i:Nat=>!bb .neq (hD qx i) (aO 32 x).1&&pn x (IntKind.wrap .i64 ((i:Int)+(1:Int))) (aO 32 x).2.1)<;>rfl
theorem Bi{a b:ByteArray}(h:a≠b):bb .neq a b=true:=by
 show(!bn a b)=true
 rw[Bool.not_eq_true',tu]
 exact h
theorem U4{x:ByteArray}(hx:bq x)(h: ∀i:Nat,i<16→iD i≠(aO 32 x).1):m16 x=(vu,4):=by
 rw[MT hx]
 have:(List.range' 0 16).find? (fun i:Nat=>!bb .neq (hD qx i) (aO 32 x).1&&pn x (IntKind.wrap .i64 ((i:Int)+(1:Int))) (aO 32 x).2.1)=none:=by
  rw[List.find?_eq_none]
  intro i hi;rw[List.mem_range'_1]at hi;rw[Bh i (by omega),Bi (h i (by omega))]
  simp
 rw[this]
theorem Bj{k:Nat}(h:k<16):IntKind.wrap .i64 ((k:Int)+(1:Int))=((k+1:Nat):Int):=by rw[dw _ (by omega) (by omega)];omega
theorem U5{x:ByteArray}(hx:bq x){k:Nat}(aj:k<16)(h:iD k=(aO 32 x).1):m16 x=bif pn x ((k+1:Nat):Int) (aO 32 x).2.1 then((mH ((k+1:Nat):Int) (aO 32 x).2.1).1,0)else(vu,4):=by
 rw[MT hx]
 have cf: ∀i:Nat,i<16→i≠k→iD i≠(aO 32 x).1:=fun i hi rQ e=>rQ (MS i hi k aj (e.trans h.symm))
 cases aK:pn x ((k+1:Nat):Int) (aO 32 x).2.1 with
 |true=>
  have:(List.range' 0 16).find? (fun i:Nat=>!bb .neq (hD qx i) (aO 32 x).1&&pn x (IntKind.wrap .i64 ((i:Int)+(1:Int))) (aO 32 x).2.1)=some (0+k):=by
   refine MO _ _ _ (fun i hi=>?_) ?_ aj
   ·rw[Nat.zero_add,Bh i (by omega),Bi (cf i (by omega) (by omega))]
    rfl
   ·rw[Nat.zero_add,Bh k aj,xX h,Bj aj,aK]
    rfl
  rw[this];dsimp only;rw[Nat.zero_add,Bj aj];rfl
 |false=>
  have:(List.range' 0 16).find? (fun i:Nat=>!bb .neq (hD qx i) (aO 32 x).1&&pn x (IntKind.wrap .i64 ((i:Int)+(1:Int))) (aO 32 x).2.1)=none:=by
   rw[List.find?_eq_none]
   intro i hi;rw[List.mem_range'_1]at hi;rw[Bh i (by omega)]
   by_cases rQ:i=k
   ·subst rQ
    rw[Bj aj,aK];simp
   ·rw[Bi (cf i (by omega) rQ)]
    simp
  rw[this];rfl
noncomputable def EY(bj:Int)(r:ByteArray):bf:=
 let bl:=cY r (32:Int)
 let v10:=cY bl.1 (46:Int)
 let b2:=cY v10.2 (46:Int)
 let cR:=hP bl.1
 let c2:=hP bl.2
 let eS:=hP v10.1
 let bT:Int→Int→Int→ByteArray→ByteArray→Int→Int→ByteArray→Int→ByteArray→ByteArray→ByteArray→Int→Int→Int→ByteArray→ByteArray→ByteArray→Int→Int→ByteArray→ByteArray→bf:=fun gz v28 jk v30 v31 nw rR fr vv kV v37 EZ qv v40 E0 tH E1 tI E2 v46 E3 E4=>
  ⟨bj,gz,v28,⟨jk,v30,v31⟩,⟨nw,rR,fr⟩,⟨vv,kV,v37⟩,⟨EZ,⟨qv,v40,⟨E0,tH,E1⟩,tI,⟨E2,v46,E3⟩,E4⟩⟩⟩
 let aF:Bool→bf:=fun c3=>
  bif c3 then
   let gz:=ob bl.2
   bT (0:Int) (0:Int) eS.1 b2.1 b2.2 gz.1.kind gz.1.n gz.1.s (0:Int) (⟨#[]⟩:ByteArray) (⟨#[]⟩:ByteArray) (⟨#[]⟩:ByteArray) (0:Int) (0:Int) (0:Int) (⟨#[]⟩:ByteArray) (⟨#[]⟩:ByteArray) (⟨#[]⟩:ByteArray) (0:Int) (0:Int) (⟨#[]⟩:ByteArray) (⟨#[]⟩:ByteArray)
  else
   bif(bj==3)then
    bT (0:Int) (0:Int) (0:Int) (⟨#[]⟩:ByteArray) (⟨#[]⟩:ByteArray) (0:Int) (0:Int) (⟨#[]⟩:ByteArray) eS.1 b2.1 b2.2 (⟨#[]⟩:ByteArray) (0:Int) (0:Int) (0:Int) (⟨#[]⟩:ByteArray) (⟨#[]⟩:ByteArray) (⟨#[]⟩:ByteArray) (0:Int) (0:Int) (⟨#[]⟩:ByteArray) (⟨#[]⟩:ByteArray)
   else
    let aF:Bool→bf:=fun v28=>
     bif v28 then
      bT cR.1 c2.1 (0:Int) (⟨#[]⟩:ByteArray) (⟨#[]⟩:ByteArray) (0:Int) (0:Int) (⟨#[]⟩:ByteArray) (0:Int) (⟨#[]⟩:ByteArray) (⟨#[]⟩:ByteArray) (⟨#[]⟩:ByteArray) (0:Int) (0:Int) (0:Int) (⟨#[]⟩:ByteArray) (⟨#[]⟩:ByteArray) (⟨#[]⟩:ByteArray) (0:Int) (0:Int) (⟨#[]⟩:ByteArray) (⟨#[]⟩:ByteArray)
     else
      bif(bj==12)then
       let v31:=n9 bl.2
       let fr:=nv v31.1
       bT (0:Int) (0:Int) (0:Int) (⟨#[]⟩:ByteArray) (⟨#[]⟩:ByteArray) (0:Int) (0:Int) (⟨#[]⟩:ByteArray) (0:Int) (⟨#[]⟩:ByteArray) (⟨#[]⟩:ByteArray) bl.1 fr.1.kind fr.1.cW fr.1.key.dev fr.1.key.bm fr.1.key.attr fr.1.name fr.1.value.kind fr.1.value.n fr.1.value.s fr.1.text
      else
       bif(bj==14)then
        bT (0:Int) (0:Int) (0:Int) (⟨#[]⟩:ByteArray) (⟨#[]⟩:ByteArray) (0:Int) (0:Int) (⟨#[]⟩:ByteArray) (0:Int) (⟨#[]⟩:ByteArray) (⟨#[]⟩:ByteArray) (⟨#[]⟩:ByteArray) (0:Int) (0:Int) (0:Int) (⟨#[]⟩:ByteArray) (⟨#[]⟩:ByteArray) (⟨#[]⟩:ByteArray) (0:Int) (0:Int) (⟨#[]⟩:ByteArray) (⟨#[]⟩:ByteArray)
       else
        bT cR.1 (0:Int) (0:Int) (⟨#[]⟩:ByteArray) (⟨#[]⟩:ByteArray) (0:Int) (0:Int) (⟨#[]⟩:ByteArray) (0:Int) (⟨#[]⟩:ByteArray) (⟨#[]⟩:ByteArray) (⟨#[]⟩:ByteArray) (0:Int) (0:Int) (0:Int) (⟨#[]⟩:ByteArray) (⟨#[]⟩:ByteArray) (⟨#[]⟩:ByteArray) (0:Int) (0:Int) (⟨#[]⟩:ByteArray) (⟨#[]⟩:ByteArray)
    let v28:=bj==8
    bif v28 then
     aF v28
    else
     aF (bj==9)
 let c3:=bj==2
 bif c3 then
  aF c3
 else
  aF (bj==13)
noncomputable def Bk(k:Int)(r:ByteArray):bf:=
 bif((k==2)||(k==13))then(⟨k,0,0,⟨(hP (cY (cY r 32).1 46).1).1,(cY (cY (cY r 32).1 46).2 46).1,(cY (cY (cY r 32).1 46).2 46).2⟩,⟨(ob (cY r 32).2).1.kind,(ob (cY r 32).2).1.n,(ob (cY r 32).2).1.s⟩,⟨0,⟨#[]⟩,⟨#[]⟩⟩,⟨⟨#[]⟩,⟨0,0,⟨0,⟨#[]⟩,⟨#[]⟩⟩,⟨#[]⟩,⟨0,0,⟨#[]⟩⟩,⟨#[]⟩⟩⟩⟩:bf)
 else bif(k==3)then(⟨k,0,0,⟨0,⟨#[]⟩,⟨#[]⟩⟩,⟨0,0,⟨#[]⟩⟩,⟨(hP (cY (cY r 32).1 46).1).1,(cY (cY (cY r 32).1 46).2 46).1,(cY (cY (cY r 32).1 46).2 46).2⟩,⟨⟨#[]⟩,⟨0,0,⟨0,⟨#[]⟩,⟨#[]⟩⟩,⟨#[]⟩,⟨0,0,⟨#[]⟩⟩,⟨#[]⟩⟩⟩⟩:bf)
 else bif((k==8)||(k==9))then(⟨k,(hP (cY r 32).1).1,(hP (cY r 32).2).1,⟨0,⟨#[]⟩,⟨#[]⟩⟩,⟨0,0,⟨#[]⟩⟩,⟨0,⟨#[]⟩,⟨#[]⟩⟩,⟨⟨#[]⟩,⟨0,0,⟨0,⟨#[]⟩,⟨#[]⟩⟩,⟨#[]⟩,⟨0,0,⟨#[]⟩⟩,⟨#[]⟩⟩⟩⟩:bf)
 else bif(k==12)then(⟨k,0,0,⟨0,⟨#[]⟩,⟨#[]⟩⟩,⟨0,0,⟨#[]⟩⟩,⟨0,⟨#[]⟩,⟨#[]⟩⟩,⟨(cY r 32).1,(nv (n9 (cY r 32).2).1).1⟩⟩:bf)
 else bif(k==14)then(⟨k,0,0,⟨0,⟨#[]⟩,⟨#[]⟩⟩,⟨0,0,⟨#[]⟩⟩,⟨0,⟨#[]⟩,⟨#[]⟩⟩,⟨⟨#[]⟩,⟨0,0,⟨0,⟨#[]⟩,⟨#[]⟩⟩,⟨#[]⟩,⟨0,0,⟨#[]⟩⟩,⟨#[]⟩⟩⟩⟩:bf)
 else(⟨k,(hP (cY r 32).1).1,0,⟨0,⟨#[]⟩,⟨#[]⟩⟩,⟨0,0,⟨#[]⟩⟩,⟨0,⟨#[]⟩,⟨#[]⟩⟩,⟨⟨#[]⟩,⟨0,0,⟨0,⟨#[]⟩,⟨#[]⟩⟩,⟨#[]⟩,⟨0,0,⟨#[]⟩⟩,⟨#[]⟩⟩⟩⟩:bf)
noncomputable def hh(k:Int)(r:ByteArray):bf:=
 bif((k==2)||(k==13))then(⟨k,0,0,⟨(cI (aO 46 (aO 32 r).1).1).1,(aO 46 (aO 46 (aO 32 r).1).2.1).1,(aO 46 (aO 46 (aO 32 r).1).2.1).2.1⟩,⟨(e0 (aO 32 r).2.1).1.kind,(e0 (aO 32 r).2.1).1.n,(e0 (aO 32 r).2.1).1.s⟩,⟨0,⟨#[]⟩,⟨#[]⟩⟩,⟨⟨#[]⟩,⟨0,0,⟨0,⟨#[]⟩,⟨#[]⟩⟩,⟨#[]⟩,⟨0,0,⟨#[]⟩⟩,⟨#[]⟩⟩⟩⟩:bf)
 else bif(k==3)then(⟨k,0,0,⟨0,⟨#[]⟩,⟨#[]⟩⟩,⟨0,0,⟨#[]⟩⟩,⟨(cI (aO 46 (aO 32 r).1).1).1,(aO 46 (aO 46 (aO 32 r).1).2.1).1,(aO 46 (aO 46 (aO 32 r).1).2.1).2.1⟩,⟨⟨#[]⟩,⟨0,0,⟨0,⟨#[]⟩,⟨#[]⟩⟩,⟨#[]⟩,⟨0,0,⟨#[]⟩⟩,⟨#[]⟩⟩⟩⟩:bf)
 else bif((k==8)||(k==9))then(⟨k,(cI (aO 32 r).1).1,(cI (aO 32 r).2.1).1,⟨0,⟨#[]⟩,⟨#[]⟩⟩,⟨0,0,⟨#[]⟩⟩,⟨0,⟨#[]⟩,⟨#[]⟩⟩,⟨⟨#[]⟩,⟨0,0,⟨0,⟨#[]⟩,⟨#[]⟩⟩,⟨#[]⟩,⟨0,0,⟨#[]⟩⟩,⟨#[]⟩⟩⟩⟩:bf)
 else bif(k==12)then(⟨k,0,0,⟨0,⟨#[]⟩,⟨#[]⟩⟩,⟨0,0,⟨#[]⟩⟩,⟨0,⟨#[]⟩,⟨#[]⟩⟩,⟨(aO 32 r).1,(hC (gk (aO 32 r).2.1).1).1⟩⟩:bf)
 else bif(k==14)then(⟨k,0,0,⟨0,⟨#[]⟩,⟨#[]⟩⟩,⟨0,0,⟨#[]⟩⟩,⟨0,⟨#[]⟩,⟨#[]⟩⟩,⟨⟨#[]⟩,⟨0,0,⟨0,⟨#[]⟩,⟨#[]⟩⟩,⟨#[]⟩,⟨0,0,⟨#[]⟩⟩,⟨#[]⟩⟩⟩⟩:bf)
 else(⟨k,(cI (aO 32 r).1).1,0,⟨0,⟨#[]⟩,⟨#[]⟩⟩,⟨0,0,⟨#[]⟩⟩,⟨0,⟨#[]⟩,⟨#[]⟩⟩,⟨⟨#[]⟩,⟨0,0,⟨0,⟨#[]⟩,⟨#[]⟩⟩,⟨#[]⟩,⟨0,0,⟨#[]⟩⟩,⟨#[]⟩⟩⟩⟩:bf)
theorem MU(k:Int)(r:ByteArray):EY k r=Bk k r:=by
 unfold EY Bk
 dsimp only
 generalize cY=f1
 generalize hP=f2
 generalize ob=f3
 generalize n9=f4
 generalize nv=f5
 cases (k==2)
 ·cases (k==13)
  ·cases (k==3)
   ·cases (k==8)
    ·cases (k==9)
     ·cases (k==12)
      ·cases (k==14)<;>rfl
      ·rfl
     ·rfl
    ·rfl
   ·rfl
  ·rfl
 ·rfl
theorem MV{k:Int}{r:ByteArray}(af:bq r):Bk k r=hh k r:=by
 have aa:cY r 32=((aO 32 r).1,(aO 32 r).2.1):=tC af 32
 have s1:=kJ (c:=32) af
 have ae:cY (aO 32 r).1 46=((aO 46 (aO 32 r).1).1,(aO 46 (aO 32 r).1).2.1):=tC s1.1 46
 have s2:=kJ (c:=46) s1.1
 have aq:cY (aO 46 (aO 32 r).1).2.1 46=((aO 46 (aO 46 (aO 32 r).1).2.1).1,(aO 46 (aO 46 (aO 32 r).1).2.1).2.1):=tC s2.2 46
 unfold Bk hh
 rw[aa]
 dsimp only
 rw[ae]
 dsimp only
 rw[aq]
 simp only[Bb,U1 s1.2,MH]
 rw[Ee (tz s1.2),va (tz s1.2)]
theorem MW(x:ByteArray):sU x=Sum.elim (fun r=>r) (fun bj=>EY bj (cY x 32).2) (bV (fun(i:Nat) (c:Int)=>(bif bb .eql (iD (Int.toNat (i:Int))) (cY x 32).1 then .bx (IntKind.wrap .i64 ((i:Int)+(1:Int)))else .bx c:Step bf Int)) 0 16 0):=by kernel_rfl
theorem MX{R:Type}{a:ByteArray}{b:Nat→Int→Step R Int}(ad: ∀i c,b i c=bif bb .eql (iD (Int.toNat (i:Int))) a then .bx (IntKind.wrap .i64 ((i:Int)+(1:Int)))else .bx c):
 ∀(n k:Nat) (c:Int),k+n≤16→∃r,bV b k n c= .inr r∧((r=c∧∀i,k≤i→i<k+n→iD i≠a)∨∃i,k≤i∧i<k+n∧iD i=a∧r=((i+1:Nat):Int)):=by
 intro n
 induction n with
 |zero=>intro k c _;exact⟨c,rfl,.inl ⟨rfl,fun i aa ae=>by omega⟩⟩
 |succ n aQ=>
  intro k c aj;unfold bV;rw[ad,Int.toNat_natCast]
  cases he:bb .eql (iD k) a with
  |true=>
   have he:bn (iD k) a=true:=he
   rw[xN]at he;obtain⟨r,aa,ae⟩:=aQ (k+1) (IntKind.wrap .i64 ((k:Int)+(1:Int))) (by omega)
   refine⟨r,aa,.inr ?_⟩
   rcases ae with⟨ae,_⟩|⟨i,g1,g2,g3,g4⟩
   ·exact⟨k,Nat.le_refl _,by omega,he,by rw[ae,Bj (by omega)]⟩
   ·exact⟨i,by omega,by omega,g3,g4⟩
  |false=>
   have he:bn (iD k) a=false:=he
   rw[tu]at he;obtain⟨r,aa,ae⟩:=aQ (k+1) c (by omega)
   refine⟨r,aa,?_⟩
   rcases ae with⟨ae,aq⟩|⟨i,g1,g2,g3,g4⟩
   ·refine .inl ⟨ae,fun i i1 i2=>?_⟩
    rcases Nat.eq_or_lt_of_le i1 with e|e
    ·subst e;exact he
    ·exact aq i e (by omega)
   ·exact .inr ⟨i,by omega,by omega,g3,g4⟩
theorem K4{x:ByteArray}(hx:bq x){k:Nat}(aj:k<16)(h:iD k=(aO 32 x).1):sU x=hh ((k+1:Nat):Int) (aO 32 x).2.1:=by
 have e:cY x 32=((aO 32 x).1,(aO 32 x).2.1):=tC hx 32
 rw[MW,e]
 obtain⟨r,aa,ae⟩:=MX (R:=bf) (a:=(aO 32 x).1) (b:=fun(i:Nat) (c:Int)=>(bif bb .eql (iD (Int.toNat (i:Int))) (aO 32 x).1 then .bx (IntKind.wrap .i64 ((i:Int)+(1:Int)))else .bx c:Step bf Int)) (fun _ _=>rfl) 16 0 0 (by decide)
 dsimp only
 rw[aa]
 dsimp only[Sum.elim]
 rw[MU,MV (kJ hx).2]
 rcases ae with⟨_,aq⟩|⟨i,_,g2,g3,g4⟩
 ·exact absurd h (aq k (Nat.zero_le _) (by omega))
 ·rw[g4,MS i (by omega) k aj (g3.trans h.symm)]
theorem K5{x:ByteArray}(hx:bq x)(h: ∀i:Nat,i<16→iD i≠(aO 32 x).1):sU x=hh 0 (aO 32 x).2.1:=by
 have e:cY x 32=((aO 32 x).1,(aO 32 x).2.1):=tC hx 32
 rw[MW,e]
 obtain⟨r,aa,ae⟩:=MX (R:=bf) (a:=(aO 32 x).1) (b:=fun(i:Nat) (c:Int)=>(bif bb .eql (iD (Int.toNat (i:Int))) (aO 32 x).1 then .bx (IntKind.wrap .i64 ((i:Int)+(1:Int)))else .bx c:Step bf Int)) (fun _ _=>rfl) 16 0 0 (by decide)
 dsimp only
 rw[aa]
 dsimp only[Sum.elim]
 rw[MU,MV (kJ hx).2]
 rcases ae with⟨ae,_⟩|⟨i,_,g2,g3,_⟩
 ·rw[ae]
 ·exact absurd g3 (h i (by omega))
end Go.aL
namespace Go.aL
open Go Go.ei
theorem Am{k:Int}{r:ByteArray}(aj:df k)(af:bq r):nq (hh k r):=by
 have e:bq (⟨#[]⟩:ByteArray):=Nat.zero_le _
 have lZ:lu ⟨0,0,⟨0,⟨#[]⟩,⟨#[]⟩⟩,⟨#[]⟩,⟨0,0,⟨#[]⟩⟩,⟨#[]⟩⟩:=⟨bM,bM,bM,e,e,e,⟨bM,bM,e⟩,e⟩
 have s1:=kJ (c:=32) af
 have s2:=kJ (c:=46) s1.1
 have hb:=kJ (c:=46) s2.2
 have ke:=Mt (aO 32 r).2.1
 have vo:=mG (aO 32 r).1
 have qq:=mG (aO 32 r).2.1
 have eH:=mG (aO 46 (aO 32 r).1).1
 have q:lu (hC (gk (aO 32 r).2.1).1).1:=by
  rw[va (tz s1.2)];exact Mx _
 unfold hh
 generalize hC (gk (aO 32 r).2.1).1=Q at q⊢
 generalize e0 (aO 32 r).2.1=V at ke⊢
 generalize cI (aO 32 r).1=Ux at vo⊢
 generalize cI (aO 32 r).2.1=Uy at qq⊢
 generalize cI (aO 46 (aO 32 r).1).1=fE at eH⊢
 generalize aO 46 (aO 46 (aO 32 r).1).2.1=C at hb⊢
 cases ((k==2)||(k==13))
 ·cases (k==3)
  ·cases ((k==8)||(k==9))
   ·cases (k==12)
    ·cases (k==14)
     ·exact⟨aj,vo,bM,bM,e,e,⟨bM,bM,e⟩,bM,e,e,e,lZ⟩
     ·exact⟨aj,bM,bM,bM,e,e,⟨bM,bM,e⟩,bM,e,e,e,lZ⟩
    ·exact⟨aj,bM,bM,bM,e,e,⟨bM,bM,e⟩,bM,e,e,s1.1,q⟩
   ·exact⟨aj,vo,qq,bM,e,e,⟨bM,bM,e⟩,bM,e,e,e,lZ⟩
  ·exact⟨aj,bM,bM,bM,e,e,⟨bM,bM,e⟩,eH,hb.1,hb.2,e,lZ⟩
 ·exact⟨aj,bM,bM,eH,hb.1,hb.2,⟨ke.k,ke.n,ke.s⟩,bM,e,e,e,lZ⟩
def ny(a:bf)(x:ByteArray):Prop:=(jD a).2=0∧(jD a).1=x
theorem U6{x:ByteArray}{bB a2:bf}{o:Bool}(aa:nq bB)(ae:nq a2)(i:ny a2 x→bB=a2∧o=true)(j:ny bB x→bB=a2):
 (bif((o&&((m13 bB).2==0))&&bb .eql (m13 bB).1 x)then(bB,(0:Int))else(vu,4))=(bif((m14 a2).2 != 0)||bb .neq (m14 a2).1 x then(vu,4)else(a2,0)):=by
 rw[T6 aa,Mh ae]
 by_cases cV:ny a2 x
 ·obtain⟨e,an⟩:=i cV
  subst e
  have ay:bb .eql (jD bB).1 x=true:=by
   show bn _ _=true;rw[cV.2,An]
  rw[an,cV.1,ay,xX cV.2];rfl
 ·have aV:((jD a2).2 != 0||bb .neq (jD a2).1 x)=true:=by
   by_cases aS:(jD a2).2=0
   ·rw[Bi (fun e=>cV ⟨aS,e⟩),Bool.or_true]
   ·rw[show((jD a2).2 != 0)=true by simpa using aS,Bool.true_or]
  have ay:((o&&((jD bB).2==0))&&bb .eql (jD bB).1 x)=false:=by
   cases hc:((o&&((jD bB).2==0))&&bb .eql (jD bB).1 x)with
   |false=>rfl
   |true=>
    exfalso;rw[Bool.and_eq_true,Bool.and_eq_true]at hc;obtain⟨⟨_,aA⟩,et⟩:=hc
    have et:bn (jD bB).1 x=true:=et
    rw[xN]at et
    have ak:ny bB x:=⟨by simpa using aA,et⟩
    exact cV (j ak ▸ ak)
  rw[ay,aV];rfl
theorem x3{a:bf}{x:ByteArray}(h:ny a x):(n8 a).2=0∧(n8 a).1=x:=by
 obtain⟨aa,ae⟩:=h
 have e:jD a=n8 a:=by
  revert aa;unfold jD
  cases ((decide (a.kind<1))||(decide (a.kind>16)))
  ·simp only[cond_false]
   cases AW (qk a) a
   ·intro _;rfl
   ·intro h;exact absurd h (show ¬(1:Int)=0 by decide)
  ·intro h;exact absurd h (show ¬(7:Int)=0 by decide)
 rw[←e]
 exact⟨aa,ae⟩
theorem Bl{x w R:ByteArray}(h:x.data.toList=w.data.toList++32::R.data.toList)(hw:kW 32 w):(aO 32 x).2.1=R:=by rw[Bf h hw]
theorem MY(d:Int)(c n:ByteArray):(hg d c n).data.toList=(e6 d).data.toList++46::(c.data.toList++46::n.data.toList):=by
 unfold hg
 simp only[rP]
 simp
theorem MZ{d:Int}{c n:ByteArray}(hc:valid c=true)(hn:valid n=true):kW 32 (hg d c n):=by
 intro u hu
 rw[MY]at hu
 simp only[List.mem_append,List.mem_cons]at hu
 rcases hu with h|h|h|h|h
 ·exact(Bg d).1 u h
 ·subst h;decide
 ·exact(EX hc).1 u h
 ·subst h;decide
 ·exact(EX hn).1 u h
theorem M0{d:Int}{c n:ByteArray}(hc:valid c=true):aO 46 (hg d c n)=(e6 d,ByteArray.append (ByteArray.append c ⟨#[46]⟩) n,true)∧aO 46 (ByteArray.append (ByteArray.append c ⟨#[46]⟩) n)=(c,n,true):=by
 refine⟨Bf ?_ (Bg d).2,Bf ?_ (EX hc).2⟩
 ·rw[MY]
  simp only[rP];simp
 ·simp only[rP]
  simp
theorem x4{s:ByteArray}(h:s=e6 (cI s).1):(cI s).2=true:=by
 cases hf:(cI s).2 with
 |true=>rfl
 |false=>
  rw[MN hf]at h
  have h:s=⟨#[48]⟩:=h
  rw[h,MM]at hf;cases hf
theorem M1{P S:ByteArray}(n6:kW 32 P):aO 32 (ByteArray.append (ByteArray.append P ⟨#[32]⟩) S)=(P,S,true):=Bf (by simp only[rP];simp) n6
theorem Bm{x y:ByteArray}(h:x=y):x.data.toList=y.data.toList:=by rw[h]
theorem U7{K:Int}{x r:ByteArray}(hK:((K==2)||(K==13))=true)(hw:kW 32 (hZ K))(af:r=(aO 32 x).2.1)(ah:bq r)(h:ny (hh K r) x):(h2 K r (aO 32 r).1 (aO 32 r).2.1).2=true:=by
 have aV:hh K r=⟨K,0,0,⟨(cI (aO 46 (aO 32 r).1).1).1,(aO 46 (aO 46 (aO 32 r).1).2.1).1,(aO 46 (aO 46 (aO 32 r).1).2.1).2.1⟩,⟨(e0 (aO 32 r).2.1).1.kind,(e0 (aO 32 r).2.1).1.n,(e0 (aO 32 r).2.1).1.s⟩,⟨0,⟨#[]⟩,⟨#[]⟩⟩,⟨⟨#[]⟩,⟨0,0,⟨0,⟨#[]⟩,⟨#[]⟩⟩,⟨#[]⟩,⟨0,0,⟨#[]⟩⟩,⟨#[]⟩⟩⟩⟩:=by
  unfold hh;rw[hK,cond_true]
 obtain⟨cN,dA⟩:=x3 h
 rw[aV]at cN dA
 unfold n8 at cN dA
 dsimp only at cN dA
 rw[hK,cond_true]at cN dA
 generalize hd:(cI (aO 46 (aO 32 r).1).1).1=d at cN dA
 generalize hc:(aO 46 (aO 46 (aO 32 r).1).2.1).1=c at cN dA
 generalize hn:(aO 46 (aO 46 (aO 32 r).1).2.1).2.1=n at cN dA
 revert cN dA
 cases de 0 0 0
 ·cases hE d
  ·simp only[cond_false]
   cases E5:valid c
   ·intro cN;exact absurd cN (show ¬(10:Int)=0 by decide)
   ·cases M3:valid n
    ·intro cN;exact absurd cN (show ¬(10:Int)=0 by decide)
    ·simp only[Bool.not_true,Bool.or_self,cond_false]
     cases av:(eP ⟨(e0 (aO 32 r).2.1).1.kind,(e0 (aO 32 r).2.1).1.n,(e0 (aO 32 r).2.1).1.s⟩ != 0)
     ·simp only[cond_false]
      cases fb:((e0 (aO 32 r).2.1).1.kind==0)
      ·intro _ dA
       have dA:ByteArray.append (ByteArray.append (ByteArray.append (ByteArray.append (hZ K) ⟨#[32]⟩) (hg d c n)) ⟨#[32]⟩) (fO ⟨(e0 (aO 32 r).2.1).1.kind,(e0 (aO 32 r).2.1).1.n,(e0 (aO 32 r).2.1).1.s⟩)=x:=dA
       have tJ:r=ByteArray.append (ByteArray.append (hg d c n) ⟨#[32]⟩) (fO ⟨(e0 (aO 32 r).2.1).1.kind,(e0 (aO 32 r).2.1).1.n,(e0 (aO 32 r).2.1).1.s⟩):=by
        refine af.trans (Bl (x:=x) ?_ hw)
        rw[←Bm dA];simp only[rP];simp
       have aJ:=M1 (P:=hg d c n) (S:=fO ⟨(e0 (aO 32 r).2.1).1.kind,(e0 (aO 32 r).2.1).1.n,(e0 (aO 32 r).2.1).1.s⟩) (MZ E5 M3)
       rw[←tJ]at aJ
       have aK:(aO 32 r).1=hg d c n:=by rw[aJ]
       obtain⟨aA,et⟩:=M0 (d:=d) (n:=n) E5
       have hf:(cI (e6 d)).2=true:=x4 (by
        have:=hd
        rw[aK,aA]at this
        rw[this])
       have v0:(e0 (aO 32 r).2.1).2=0:=by
        rw[MK]at fb⊢;unfold nx at fb⊢;revert fb
        cases (bb .eql (aO 32 r).2.1 (⟨#[]⟩:ByteArray)||bb .neq (fO (x2 (aO 32 r).2.1)) (aO 32 r).2.1)
        ·intro _;rfl
        ·intro h;cases h
       unfold h2;rw[hK,cond_true];dsimp only;rw[v0,aK,EK,vq (by rw[←aK];exact(kJ ah).1),aA]
       dsimp only;rw[vq (by have:=(kJ (c:=46) (by rw[←aK];exact(kJ ah).1:bq (hg d c n))).2;rw[aA]at this;exact this),et]
       dsimp only;rw[hf];rfl
      ·intro cN;exact absurd cN (show ¬(4:Int)=0 by decide)
     ·simp only[cond_true]
      intro cN;rw[show eP ⟨(e0 (aO 32 r).2.1).1.kind,(e0 (aO 32 r).2.1).1.n,(e0 (aO 32 r).2.1).1.s⟩=0 from cN]at av
      cases av
  ·intro cN;exact absurd cN (show ¬(2:Int)=0 by decide)
 ·intro cN;exact absurd cN (show ¬(2:Int)=0 by decide)
theorem M4{K:Int}{x:ByteArray}{d:Int}{c n:ByteArray}(ae:((K==2)||(K==13))=false)(aq:(K==3)=true)(hw:kW 32 (hZ K))(h:ny ⟨K,0,0,⟨0,⟨#[]⟩,⟨#[]⟩⟩,⟨0,0,⟨#[]⟩⟩,⟨d,c,n⟩,⟨⟨#[]⟩,⟨0,0,⟨0,⟨#[]⟩,⟨#[]⟩⟩,⟨#[]⟩,⟨0,0,⟨#[]⟩⟩,⟨#[]⟩⟩⟩⟩ x):
 (aO 32 x).2.1=hg d c n∧valid c=true∧valid n=true:=by
 obtain⟨cN,dA⟩:=x3 h
 unfold n8 at cN dA
 dsimp only at cN dA
 rw[ae,aq,cond_false,cond_true]at cN dA
 revert cN dA
 cases de 0 0 0
 ·cases hE d
  ·simp only[cond_false]
   cases E5:valid c
   ·intro cN;exact absurd cN (show ¬(10:Int)=0 by decide)
   ·cases M3:valid n
    ·intro cN;exact absurd cN (show ¬(10:Int)=0 by decide)
    ·intro _ dA
     have dA:ByteArray.append (ByteArray.append (hZ K) ⟨#[32]⟩) (hg d c n)=x:=dA
     refine⟨Bl (x:=x) ?_ hw,rfl,rfl⟩
     rw[←Bm dA];simp only[rP];simp
  ·intro cN;exact absurd cN (show ¬(2:Int)=0 by decide)
 ·intro cN;exact absurd cN (show ¬(2:Int)=0 by decide)
end Go.aL
namespace Go.aL
open Go Go.ei
theorem U8{K n m:Int}{x:ByteArray}(ae:((K==2)||(K==13))=false)(aq:(K==3)=false)(gV:(K==12)=false)(e5:((K==8)||(K==9))=true)(hw:kW 32 (hZ K))(h:ny ⟨K,n,m,⟨0,⟨#[]⟩,⟨#[]⟩⟩,⟨0,0,⟨#[]⟩⟩,⟨0,⟨#[]⟩,⟨#[]⟩⟩,⟨⟨#[]⟩,⟨0,0,⟨0,⟨#[]⟩,⟨#[]⟩⟩,⟨#[]⟩,⟨0,0,⟨#[]⟩⟩,⟨#[]⟩⟩⟩⟩ x):
 (aO 32 x).2.1=ByteArray.append (ByteArray.append (e6 n) ⟨#[32]⟩) (e6 m):=by
 obtain⟨cN,dA⟩:=x3 h
 unfold n8 at cN dA
 dsimp only at cN dA
 rw[ae,aq,gV,e5,cond_false,cond_false,cond_false,cond_true]at cN dA
 revert cN dA
 cases de 0 n m
 ·intro _ dA
  have dA:ByteArray.append (ByteArray.append (ByteArray.append (ByteArray.append (hZ K) ⟨#[32]⟩) (e6 n)) ⟨#[32]⟩) (e6 m)=x:=dA
  refine Bl (x:=x) ?_ hw
  rw[←Bm dA];simp only[rP];simp
 ·intro cN;exact absurd cN (show ¬(2:Int)=0 by decide)
theorem M5{K n:Int}{x:ByteArray}(ae:((K==2)||(K==13))=false)(aq:(K==3)=false)(gV:(K==12)=false)(e5:((K==8)||(K==9))=false)(l0:(K==14)=false)(hw:kW 32 (hZ K))(h:ny ⟨K,n,0,⟨0,⟨#[]⟩,⟨#[]⟩⟩,⟨0,0,⟨#[]⟩⟩,⟨0,⟨#[]⟩,⟨#[]⟩⟩,⟨⟨#[]⟩,⟨0,0,⟨0,⟨#[]⟩,⟨#[]⟩⟩,⟨#[]⟩,⟨0,0,⟨#[]⟩⟩,⟨#[]⟩⟩⟩⟩ x):
 (aO 32 x).2.1=e6 n:=by
 obtain⟨cN,dA⟩:=x3 h
 unfold n8 at cN dA
 dsimp only at cN dA
 rw[ae,aq,gV,e5,l0,cond_false,cond_false,cond_false,cond_false,cond_false]at cN dA
 revert cN dA
 cases de (bif(K==11)then -1 else 0) n 0
 ·intro _ dA
  have dA:ByteArray.append (ByteArray.append (hZ K) ⟨#[32]⟩) (e6 n)=x:=dA
  refine Bl (x:=x) ?_ hw
  rw[←Bm dA];simp only[rP];simp
 ·intro cN;exact absurd cN (show ¬(2:Int)=0 by decide)
theorem U9{K:Int}{x t:ByteArray}{q:dD}(ae:((K==2)||(K==13))=false)(aq:(K==3)=false)(gV:(K==12)=true)(h:ny ⟨K,0,0,⟨0,⟨#[]⟩,⟨#[]⟩⟩,⟨0,0,⟨#[]⟩⟩,⟨0,⟨#[]⟩,⟨#[]⟩⟩,⟨t,q⟩⟩ x):h0 ⟨t,q⟩ (gy (eZ q))=false:=by
 obtain⟨cN,_⟩:=x3 h
 unfold n8 at cN
 dsimp only at cN
 rw[ae,aq,gV,cond_false,cond_false,cond_true]at cN
 revert cN
 cases de 0 0 0
 ·unfold Me
  dsimp only
  cases h0 ⟨t,q⟩ (gy (eZ q))
  ·intro _;rfl
  ·intro cN;exact absurd cN (show ¬(4:Int)=0 by decide)
 ·intro cN;exact absurd cN (show ¬(2:Int)=0 by decide)
theorem Va{t s:ByteArray}{q:dD}(h:h0 ⟨t,q⟩ (gy s)=false):1≤q.kind:=by
 unfold h0 at h
 rw[Bool.or_eq_false_iff,Bool.not_eq_false']at h
 obtain⟨aa,ae⟩:=h
 have aj:(gy s).1.kind=q.kind:=by
  revert ae
  cases he:((gy s).1.kind==q.kind)
  ·intro h;cases h
  ·intro _;simpa using he
 rw[←aj]
 have aa:(gy s).2=0:=by simpa using aa
 revert aa
 unfold gy
 split
 ·rename_i h;intro aa;exact absurd (by simpa using aa) h
 ·split
  ·intro aa;exact absurd aa (show ¬(7:Int)=0 by decide)
  ·rename_i h
   split
   ·intro aa;exact absurd aa (show ¬(2:Int)=0 by decide)
   ·intro _
    show 1≤(eB s).kind;omega
theorem Vb{s:ByteArray}(h:(gy s).2≠0):(gy s).1.kind=0:=by
 revert h
 unfold gy
 split
 ·intro _;rfl
 ·split
  ·intro _;rfl
  ·split
   ·intro _;rfl
   ·intro h;exact absurd rfl h
theorem Vc:(gy ⟨#[]⟩).1.kind=0:=by decide+kernel
theorem Vd(x:ByteArray):(gk x).2=0∨(gk x).1=⟨#[]⟩:=by
 unfold gk
 dsimp only
 cases ((aZ .rem .i64 (x.size:Int) (2:Int)) != 0)with
 |true=>exact .inr rfl
 |false=>
  simp only[cond_false];refine EF (Q:=fun r:ByteArray × Int=>r.2=0∨r.1=⟨#[]⟩) (fun r af=>?_) (fun c hc=>.inl rfl)
  have:r=(⟨#[]⟩,4):=by
   refine Mp (Q:=fun r=>r=(⟨#[]⟩,4)) ?_ _ _ _ af
   intro a r h;revert h;simp only[cond_eq_ite]
   repeat' split
   ·intro h;cases h;rfl
   ·intro h;cases h
   ·intro h;cases h
  rw[this];exact .inr rfl
theorem Ve(K:Int):((K==2)||(K==13))=true∨(((K==2)||(K==13))=false∧(K==3)=true)∨(((K==2)||(K==13))=false∧(K==3)=false∧(K==12)=true∧((K==8)||(K==9))=false)∨
 (((K==2)||(K==13))=false∧(K==3)=false∧(K==12)=false∧((K==8)||(K==9))=true)∨(((K==2)||(K==13))=false∧(K==3)=false∧(K==12)=false∧((K==8)||(K==9))=false∧(K==14)=true)∨
 (((K==2)||(K==13))=false∧(K==3)=false∧(K==12)=false∧((K==8)||(K==9))=false∧(K==14)=false):=by
 rcases AV K with h|h|h|h|h|h|h|h|⟨aa,ae,aq,aT,bD,cA,dx,e5⟩
 ·subst h;exact .inl rfl
 ·subst h;exact .inl rfl
 ·subst h;exact .inr (.inl ⟨rfl,rfl⟩)
 ·subst h;exact .inr (.inr (.inl ⟨rfl,rfl,rfl,rfl⟩))
 ·subst h;exact .inr (.inr (.inr (.inl ⟨rfl,rfl,rfl,rfl⟩)))
 ·subst h;exact .inr (.inr (.inr (.inl ⟨rfl,rfl,rfl,rfl⟩)))
 ·subst h;exact .inr (.inr (.inr (.inr (.inl ⟨rfl,rfl,rfl,rfl,rfl⟩))))
 ·subst h;exact .inr (.inr (.inr (.inr (.inr ⟨rfl,rfl,rfl,rfl,rfl⟩))))
 ·refine .inr (.inr (.inr (.inr (.inr ⟨?_,aq,aT,?_,dx⟩))))
  ·rw[aa,ae];rfl
  ·rw[bD,cA];rfl
theorem M6{r:ByteArray}(af:bq r):(h1 r).1=(cI (aO 46 r).1).1∧(h1 r).2.1=(aO 46 (aO 46 r).2.1).1∧(h1 r).2.2.1=(aO 46 (aO 46 r).2.1).2.1∧(h1 r).2.2.2=(((aO 46 r).2.2&&(aO 46 (aO 46 r).2.1).2.2)&&(cI (aO 46 r).1).2):=by
 rw[EK,vq af,vq (kJ af).2]
 exact⟨rfl,rfl,rfl,rfl⟩
theorem Vf{K:Int}{x r:ByteArray}(hw:kW 32 (hZ K))(af:r=(aO 32 x).2.1)(ah:bq r):
 (ny (hh K r) x→(h2 K r (aO 32 r).1 (aO 32 r).2.1).1=hh K r∧(h2 K r (aO 32 r).1 (aO 32 r).2.1).2=true)∧(ny (h2 K r (aO 32 r).1 (aO 32 r).2.1).1 x→(h2 K r (aO 32 r).1 (aO 32 r).2.1).1=hh K r):=by
 have M7:=kJ (c:=32) ah
 rcases Ve K with ae|⟨ae,aq⟩|⟨ae,aq,gV,e5⟩|⟨ae,aq,gV,e5⟩|⟨ae,aq,gV,e5,l0⟩|⟨ae,aq,gV,e5,l0⟩
 ·have e:(h2 K r (aO 32 r).1 (aO 32 r).2.1).1=hh K r:=by
   obtain⟨dh,dv,kq,_⟩:=M6 M7.1;unfold h2 hh;rw[ae,cond_true,cond_true,dh,dv,kq]
  exact⟨fun h=>⟨e,U7 ae hw af ah h⟩,fun _=>e⟩
 ·obtain⟨dh,dv,kq,qy⟩:=M6 ah
  have ay:(h2 K r (aO 32 r).1 (aO 32 r).2.1)=((⟨K,0,0,⟨0,⟨#[]⟩,⟨#[]⟩⟩,⟨0,0,⟨#[]⟩⟩,⟨(cI (aO 46 r).1).1,(aO 46 (aO 46 r).2.1).1,(aO 46 (aO 46 r).2.1).2.1⟩,⟨⟨#[]⟩,⟨0,0,⟨0,⟨#[]⟩,⟨#[]⟩⟩,⟨#[]⟩,⟨0,0,⟨#[]⟩⟩,⟨#[]⟩⟩⟩⟩:bf),(((aO 46 r).2.2&&(aO 46 (aO 46 r).2.1).2.2)&&(cI (aO 46 r).1).2)):=by
   unfold h2;rw[ae,aq,cond_false,cond_true,dh,dv,kq,qy]
  have aV:hh K r=⟨K,0,0,⟨0,⟨#[]⟩,⟨#[]⟩⟩,⟨0,0,⟨#[]⟩⟩,⟨(cI (aO 46 (aO 32 r).1).1).1,(aO 46 (aO 46 (aO 32 r).1).2.1).1,(aO 46 (aO 46 (aO 32 r).1).2.1).2.1⟩,⟨⟨#[]⟩,⟨0,0,⟨0,⟨#[]⟩,⟨#[]⟩⟩,⟨#[]⟩,⟨0,0,⟨#[]⟩⟩,⟨#[]⟩⟩⟩⟩:=by
   unfold hh;rw[ae,aq,cond_false,cond_true]
  rw[ay,aV]
  have one: ∀d c n,r=hg d c n→valid c=true→valid n=true→(aO 32 r).1=r:=fun d c n h v1 v2=>by
   rw[MQ (by rw[h];exact MZ v1 v2)]
  refine⟨fun h=>?_,fun h=>?_⟩
  ·obtain⟨t1,t2,t3⟩:=M4 ae aq hw h
   rw[←af]at t1
   have bB:=one _ _ _ t1 t2 t3
   rw[bB]at t1 t2 t3⊢;refine⟨rfl,?_⟩
   generalize hd:(cI (aO 46 r).1).1=d at t1;generalize hc:(aO 46 (aO 46 r).2.1).1=c at t1 t2;generalize hn:(aO 46 (aO 46 r).2.1).2.1=n at t1 t3;obtain⟨aA,et⟩:=M0 (d:=d) (n:=n) t2;rw[←t1]at aA
   have hf:(cI (e6 d)).2=true:=x4 (by
    rw[aA]at hd
    rw[hd])
   rw[aA];dsimp only;rw[et,hf];rfl
  ·obtain⟨t1,t2,t3⟩:=M4 ae aq hw h
   rw[←af]at t1;rw[one _ _ _ t1 t2 t3]
 ·have ay:(h2 K r (aO 32 r).1 (aO 32 r).2.1)=((⟨K,0,0,⟨0,⟨#[]⟩,⟨#[]⟩⟩,⟨0,0,⟨#[]⟩⟩,⟨0,⟨#[]⟩,⟨#[]⟩⟩,⟨(aO 32 r).1,(hC (gk (aO 32 r).2.1).1).1⟩⟩:bf),(((gk (aO 32 r).2.1).2==0)&&((hC (gk (aO 32 r).2.1).1).2==0))):=by
   unfold h2;rw[ae,aq,gV,cond_false,cond_false,cond_true]
  have aV:hh K r=⟨K,0,0,⟨0,⟨#[]⟩,⟨#[]⟩⟩,⟨0,0,⟨#[]⟩⟩,⟨0,⟨#[]⟩,⟨#[]⟩⟩,⟨(aO 32 r).1,(hC (gk (aO 32 r).2.1).1).1⟩⟩:=by
   unfold hh;rw[ae,aq,e5,gV,cond_false,cond_false,cond_false,cond_true]
  rw[ay,aV];refine⟨fun h=>⟨rfl,?_⟩,fun _=>rfl⟩
  have aJ:=Va (U9 ae aq gV h)
  rw[va (tz M7.2)]at aJ⊢
  have d0:(gy (gk (aO 32 r).2.1).1).2=0:=by
   by_cases aS:(gy (gk (aO 32 r).2.1).1).2=0
   ·exact aS
   ·rw[Vb aS]at aJ
    exact absurd aJ (by decide)
  have x0:(gk (aO 32 r).2.1).2=0:=by
   rcases Vd (aO 32 r).2.1 with aS|aS
   ·exact aS
   ·rw[aS,Vc]at aJ
    exact absurd aJ (by decide)
  rw[d0,x0];rfl
 ·have ay:(h2 K r (aO 32 r).1 (aO 32 r).2.1)=((⟨K,(cI (aO 32 r).1).1,(cI (aO 32 r).2.1).1,⟨0,⟨#[]⟩,⟨#[]⟩⟩,⟨0,0,⟨#[]⟩⟩,⟨0,⟨#[]⟩,⟨#[]⟩⟩,⟨⟨#[]⟩,⟨0,0,⟨0,⟨#[]⟩,⟨#[]⟩⟩,⟨#[]⟩,⟨0,0,⟨#[]⟩⟩,⟨#[]⟩⟩⟩⟩:bf),((cI (aO 32 r).1).2&&(cI (aO 32 r).2.1).2)):=by
   unfold h2;rw[ae,aq,gV,e5,cond_false,cond_false,cond_false,cond_true]
  have aV:hh K r=⟨K,(cI (aO 32 r).1).1,(cI (aO 32 r).2.1).1,⟨0,⟨#[]⟩,⟨#[]⟩⟩,⟨0,0,⟨#[]⟩⟩,⟨0,⟨#[]⟩,⟨#[]⟩⟩,⟨⟨#[]⟩,⟨0,0,⟨0,⟨#[]⟩,⟨#[]⟩⟩,⟨#[]⟩,⟨0,0,⟨#[]⟩⟩,⟨#[]⟩⟩⟩⟩:=by
   unfold hh;rw[ae,aq,e5,cond_false,cond_false,cond_true]
  rw[ay,aV];refine⟨fun h=>⟨rfl,?_⟩,fun _=>rfl⟩
  have t:=U8 ae aq gV e5 hw h
  rw[←af]at t
  have hc:=M1 (P:=e6 (cI (aO 32 r).1).1) (S:=e6 (cI (aO 32 r).2.1).1) (Bg _).1
  rw[←t]at hc
  have f1:(cI (aO 32 r).1).2=true:=x4 (by have:=congrArg Prod.fst hc;exact this)
  have f2:(cI (aO 32 r).2.1).2=true:=x4 (by have:=congrArg (fun z=>z.2.1) hc;exact this)
  rw[f1,f2];rfl
 ·have ay:(h2 K r (aO 32 r).1 (aO 32 r).2.1)=(hh K r,true):=by
   unfold h2 hh;rw[ae,aq,gV,e5,l0,cond_false,cond_false,cond_false,cond_false,cond_true,cond_false,cond_false,cond_false,cond_false,cond_true]
  rw[ay];exact⟨fun _=>⟨rfl,rfl⟩,fun _=>rfl⟩
 ·have ay:(h2 K r (aO 32 r).1 (aO 32 r).2.1)=((⟨K,(cI r).1,0,⟨0,⟨#[]⟩,⟨#[]⟩⟩,⟨0,0,⟨#[]⟩⟩,⟨0,⟨#[]⟩,⟨#[]⟩⟩,⟨⟨#[]⟩,⟨0,0,⟨0,⟨#[]⟩,⟨#[]⟩⟩,⟨#[]⟩,⟨0,0,⟨#[]⟩⟩,⟨#[]⟩⟩⟩⟩:bf),(cI r).2):=by
   unfold h2;rw[ae,aq,gV,e5,l0,cond_false,cond_false,cond_false,cond_false,cond_false]
  have aV:hh K r=⟨K,(cI (aO 32 r).1).1,0,⟨0,⟨#[]⟩,⟨#[]⟩⟩,⟨0,0,⟨#[]⟩⟩,⟨0,⟨#[]⟩,⟨#[]⟩⟩,⟨⟨#[]⟩,⟨0,0,⟨0,⟨#[]⟩,⟨#[]⟩⟩,⟨#[]⟩,⟨0,0,⟨#[]⟩⟩,⟨#[]⟩⟩⟩⟩:=by
   unfold hh;rw[ae,aq,e5,gV,l0,cond_false,cond_false,cond_false,cond_false,cond_false]
  rw[ay,aV]
  have one: ∀n,r=e6 n→(aO 32 r).1=r:=fun n h=>by rw[MQ (by rw[h];exact(Bg n).1)]
  refine⟨fun h=>?_,fun h=>?_⟩
  ·have t:=M5 ae aq gV e5 l0 hw h
   rw[←af]at t
   have bB:=one _ t
   rw[bB]at t⊢;exact⟨rfl,x4 t⟩
  ·have t:=M5 ae aq gV e5 l0 hw h
   rw[←af]at t;rw[one _ t]
theorem Vg(K:Int):kW 32 (hZ K):=by
 have: ∀j:Nat,∀u∈(List.getD ql j (fJ .str)).data.toList,u≠32:=by
  intro j
  rcases Nat.lt_or_ge j 16 with h|h
  ·revert j
   decide+kernel
  ·rw[List.getD_eq_getElem?_getD,List.getElem?_eq_none (by exact h)]
   intro u hu;cases hu
 exact this _
theorem SV{x:ByteArray}(hx:bq x):m16 x=m17 x:=by
 have ah:=(kJ (c:=32) hx).2
 by_cases h: ∃k:Nat,k<16∧iD k=(aO 32 x).1
 ·obtain⟨k,aj,he⟩:=h
  have hK:df ((k+1:Nat):Int):=⟨by omega,by omega⟩
  rw[U5 hx aj he];unfold pn m17;rw[K4 hx aj he,Mz,vq ah];obtain⟨i,j⟩:=Vf (K:=((k+1:Nat):Int)) (x:=x) (Vg _) rfl ah;exact U6 (My hK ah (kJ ah).1 (kJ ah).2) (Am hK ah) i j
 ·have h: ∀i:Nat,i<16→iD i≠(aO 32 x).1:=fun i hi e=>h ⟨i,hi,e⟩
  rw[U4 hx h];unfold m17;rw[K5 hx h]
  have e:(m14 (hh 0 (aO 32 x).2.1)).2=7:=by
   rw[Mh (Am bM ah)];rfl
  dsimp only;rw[e];rfl
end Go.aL
namespace Go.aL
open Go Go.ei
def hz(x:ByteArray):Prop:=x.size≤6000
theorem hz.nX{x:ByteArray}(h:hz x):bq x:=by unfold hz at h;unfold bq;omega
theorem M8{c:UInt8}{x:ByteArray}(hx:hz x):hz (aO c x).1∧hz (aO c x).2.1:=by
 unfold hz at hx
 unfold aO
 split
 ·unfold hz
  dsimp only;rw[ByteArray.size_extract,ByteArray.size_extract];omega
 ·exact⟨hx,Nat.zero_le _⟩
theorem Bn{x:ByteArray}(hx:hz x)(c:Int):vw x c:=by
 unfold hz at hx
 refine⟨⟨by omega,by omega⟩,fun _ _=>True,trivial,fun i _ hi _=>⟨fun _=>?_,fun _=>trivial⟩⟩
 have hi:i<x.size:=by rwa[Int.toNat_natCast]at hi
 have w:IntKind.wrap .i64 ((i:Int)+(1:Int))=((i+1:Nat):Int):=by rw[dw _ (by omega) (by omega)];omega
 rw[w]
 exact⟨⟨by omega,by omega⟩,⟨by omega,by omega⟩⟩
theorem x5(x:ByteArray):rS x:=by
 unfold rS
 intro v1 l0
 have l0: ¬(x.size:Int)>14:=of_decide_eq_false l0
 intro aF
 have dZ: ∀v:Int,0≤v→aF v:=by
  intro v av;refine⟨fun d=>df d.1∧0≤d.2,fun d=>x.size+15-d.2.toNat,⟨bM,av⟩,?_,?_⟩
  ·show x.size+15-v.toNat<18446744073709551616
   omega
  ·intro d0 hd
   obtain⟨d1,d2⟩:=hd;refine⟨fun h=>?_,fun _=>⟨fun _ _=>(vl _).p,fun _ _=>d1.p⟩⟩
   have h:d0.2<(x.size:Int):=of_decide_eq_true h
   have w:IntKind.wrap .i64 (d0.2+1)=d0.2+1:=dw _ (by omega) (by omega)
   refine⟨⟨d2,h⟩,fun _=>⟨d2,h⟩,fun _=>⟨⟨d2,h⟩,⟨vl _,?_⟩,?_⟩⟩
   ·show 0≤IntKind.wrap .i64 (d0.2+1)
    rw[w];omega
   ·show x.size+15-(IntKind.wrap .i64 (d0.2+1)).toNat<x.size+15-d0.2.toNat
    rw[w];omega
 exact⟨fun h=>⟨Int.le_refl _,of_decide_eq_true h⟩,fun _=>dZ 1 (by decide),fun _=>dZ 0 (by decide)⟩
theorem Vh{x:ByteArray}(hx:hz x):Bo x 0:=by
 unfold hz at hx
 unfold Bo
 intro v2 v3
 have aq:v3=false→(0:Int)<(x.size:Int):=fun h=>by
  have h: ¬(0:Int)≥(x.size:Int):=of_decide_eq_false h
  omega
 refine⟨fun h=>⟨Int.le_refl _,aq h⟩,fun h=>?_⟩
 have ah:=aq (Bool.or_eq_false_iff.1 h).1
 intro aR
 refine⟨fun d=>1≤d.1∧d.1≤(x.size:Int)∧(d.2.length:Int)+1≤d.1,fun d=>x.size+10-d.1.toNat,⟨show(1:Int)≤1 by decide,show(1:Int)≤_ by omega,show((0:Nat):Int)+1≤1 by decide⟩,?_,?_⟩
 ·show x.size+10-Int.toNat 1<18446744073709551616
  omega
 ·intro d0 hd
  obtain⟨d1,d2,d3⟩:=hd
  have cn:IntKind.wrap .i64 (d0.1+1)=d0.1+1:=dw _ (by omega) (by omega)
  have cH:IntKind.wrap .i64 (d0.1+2)=d0.1+2:=dw _ (by omega) (by omega)
  have kh:IntKind.wrap .i64 (d0.1+3)=d0.1+3:=dw _ (by omega) (by omega)
  have qt:IntKind.wrap .i64 (d0.1+4)=d0.1+4:=dw _ (by omega) (by omega)
  have key: ∀(s:Int) (v:Int),1≤s→d0.1+s≤(x.size:Int)→(List.length d0.2+List.length [v]≤maxLen∧(List.length d0.2+List.length [v])*1≤140737488355328)∧(1≤d0.1+s∧d0.1+s≤(x.size:Int)∧((List.append d0.2 [v]).length:Int)+1≤d0.1+s)∧x.size+10-(d0.1+s).toNat<x.size+10-d0.1.toNat:=by
   intro s v M9 E6;rw[A5];refine⟨⟨?_,?_⟩,⟨by omega,E6,by omega⟩,by omega⟩
   ·show d0.2.length+1≤maxLen;unfold maxLen;omega
   ·show(d0.2.length+1)*1≤_;omega
  intro v10
  have x6:v10=true→d0.1<(x.size:Int):=fun h=>of_decide_eq_true h
  refine⟨fun h=>⟨by omega,x6 h⟩,fun h=>?_,fun _=>?_⟩
  ·have bA:=x6 (Bool.and_eq_true _ _ ▸ h).1
   refine⟨⟨by omega,bA⟩,fun _=>⟨⟨by omega,bA⟩,?_⟩,fun _=>?_⟩
   ·have:=key 1 (aC x d0.1) (by decide) (by omega)
    rw[←cn]at this;exact this
   ·have ay:decide (IntKind.wrap .i64 (d0.1+1)<(x.size:Int))=true→0≤IntKind.wrap .i64 (d0.1+1)∧IntKind.wrap .i64 (d0.1+1)<(x.size:Int):=fun h=>by
     have h:=of_decide_eq_true h
     rw[cn]at h⊢;omega
    have ct:decide (IntKind.wrap .i64 (d0.1+3)<(x.size:Int))=true→d0.1+3<(x.size:Int):=fun h=>by
     have h:=of_decide_eq_true h
     rwa[kh]at h
    refine⟨fun h=>ay h,fun h _=>ay h,fun h=>?_,fun _=>⟨fun h=>?_,fun h=>?_,?_⟩⟩
    ·have aa:=ay (Bool.and_eq_true _ _ ▸ h).1
     refine⟨aa,?_⟩
     rw[cn]at aa
     have:=key 2 (aC x (IntKind.wrap .i64 (d0.1+1))) (by decide) (by omega)
     rw[←cH]at this;exact this
    ·have:=ct h
     rw[cn];omega
    ·have:=ct (Bool.and_eq_true _ _ ▸ h).1
     rw[cH];omega
    ·intro aF
     have dZ: ∀z,aF z:=by
      intro z
      have eA:((decide (IntKind.wrap .i64 (d0.1+3)<(x.size:Int))&&((aC x (IntKind.wrap .i64 (d0.1+1)))==120))&&decide (z≥0))=true→d0.1+3<(x.size:Int):=fun h=>ct (Bool.and_eq_true _ _ ▸ (Bool.and_eq_true _ _ ▸ h).1).1
      have fin:((decide (IntKind.wrap .i64 (d0.1+3)<(x.size:Int))&&((aC x (IntKind.wrap .i64 (d0.1+1)))==120))&&decide (z≥0))=true→∀v:Int,(0≤IntKind.wrap .i64 (d0.1+2)∧IntKind.wrap .i64 (d0.1+2)<(x.size:Int))∧(0≤IntKind.wrap .i64 (d0.1+3)∧IntKind.wrap .i64 (d0.1+3)<(x.size:Int))∧
       (List.length d0.2+List.length [v]≤maxLen∧(List.length d0.2+List.length [v])*1≤140737488355328)∧(1≤IntKind.wrap .i64 (d0.1+4)∧IntKind.wrap .i64 (d0.1+4)≤(x.size:Int)∧((List.append d0.2 [v]).length:Int)+1≤IntKind.wrap .i64 (d0.1+4))∧x.size+10-(IntKind.wrap .i64 (d0.1+4)).toNat<x.size+10-d0.1.toNat:=fun h v=>by
       have:=eA h
       rw[cH,kh,qt];exact⟨by omega,by omega,key 4 v (by decide) (by omega)⟩
      refine⟨fun h=>?_,fun _ h=>?_,fun _ h=>?_⟩
      ·have:=eA h
       rw[kh];omega
      ·exact fin (Bool.and_eq_true _ _ ▸ h).1 _
      ·exact fin (Bool.and_eq_true _ _ ▸ h).1 _
     exact⟨fun _=>dZ _,fun _=>dZ _⟩
  ·have ad:(bytesOf d0.2).size≤1000000:=by rw[u2];omega
   refine⟨fun h=>?_,fun _=>L5 ad⟩
   have h: ¬d0.1≥(x.size:Int):=of_decide_eq_false h
   show 0≤(0:Int)∧(0:Int)≤IntKind.wrap .i64 (d0.1+1)∧IntKind.wrap .i64 (d0.1+1)≤(x.size:Int);rw[cn];omega
theorem Vi{x:ByteArray}(hx:hz x):E7 x:=by
 intro _
 refine⟨fun h=>⟨Int.le_refl _,vn h⟩,fun h=>?_,fun _=>⟨fun h=>⟨Int.le_refl _,vn h⟩,fun _=>Vh hx,fun _=>x5 _⟩⟩
 have h:=vn (Bool.and_eq_true _ _ ▸ h).1
 exact⟨⟨by decide,by omega⟩,x5 _⟩
theorem Vj(x:ByteArray):df (qw x).n:=by
 have o:df 1:=mD (by decide) (by decide)
 unfold qw
 simp only[Bb]
 have gj:=mG x
 have fy:=mG (bw x (some (1:Int)) none)
 generalize cI x=A at gj⊢
 generalize cI (bw x (some (1:Int)) none)=B at fy⊢
 generalize tF x=C
 simp only[cond_eq_ite]
 repeat' split
 all_goals first|exact o|exact bM|exact gj|exact fy
theorem Vk{x:ByteArray}(hx:hz x):Bp x:=⟨Vi hx,fun _=>L7 (v:=qw x) (Vj x)⟩
theorem Vl{x:ByteArray}(hx:hz x):tK x:=by
 unfold tK
 intro v1 av
 have h:(aZ .rem .i64 (x.size:Int) 2 != 0)=false:=av
 have h:(x.size:Int).tmod 2=0:=by simpa[aZ]using h
 unfold hz at hx
 refine⟨fun d=>0≤d.1∧d.1≤(x.size:Int)∧d.1%2=0∧(d.2.length:Int)≤d.1,fun d=>x.size-d.1.toNat,⟨Int.le_refl _,by show(0:Int)≤_;omega,rfl,Int.le_refl _⟩,?_,?_⟩
 ·show x.size-Int.toNat 0<18446744073709551616
  omega
 ·intro d0 hd
  obtain⟨d1,d2,d3,d4⟩:=hd;intro bA
  have bA:d0.1<(x.size:Int):=of_decide_eq_true bA
  rw[Int.tmod_eq_emod_of_nonneg (by omega)]at h
  have cn:IntKind.wrap .i64 (d0.1+1)=d0.1+1:=dw _ (by omega) (by omega)
  have cH:IntKind.wrap .i64 (d0.1+2)=d0.1+2:=dw _ (by omega) (by omega)
  refine⟨⟨d1,bA⟩,?_,fun _=>⟨⟨?_,?_⟩,⟨?_,?_,?_,?_⟩,?_⟩⟩
  ·show 0≤IntKind.wrap .i64 (d0.1+1)∧IntKind.wrap .i64 (d0.1+1)<_
   rw[cn];omega
  ·show d0.2.length+1≤maxLen
   unfold maxLen;omega
  ·show(d0.2.length+1)*1≤_
   omega
  ·show 0≤IntKind.wrap .i64 (d0.1+2)
   rw[cH];omega
  ·show IntKind.wrap .i64 (d0.1+2)≤_
   rw[cH];omega
  ·show IntKind.wrap .i64 (d0.1+2)%2=0
   rw[cH];omega
  ·show((List.append d0.2 [_]).length:Int)≤IntKind.wrap .i64 (d0.1+2)
   rw[cH,A5];omega
  ·show x.size-(IntKind.wrap .i64 (d0.1+2)).toNat<x.size-d0.1.toNat
   rw[cH];omega
theorem E8{x:ByteArray}(hx:hz x):(hz (cY x 32).1∧hz (cY x 32).2)∧hz (cY x 46).1∧hz (cY x 46).2:=by
 have ay:cY x 32=((aO 32 x).1,(aO 32 x).2.1):=tC hx.nX 32
 have aV:cY x 46=((aO 46 x).1,(aO 46 x).2.1):=tC hx.nX 46
 rw[ay,aV]
 exact⟨M8 hx,M8 hx⟩
theorem SP{x:ByteArray}(hx:hz x):E9 x:=by
 have s1:=(E8 hx).1
 have s2:=(E8 s1.2).1
 have hb:=(E8 s2.1).2
 refine⟨Bn hx _,?_⟩
 refine⟨fun _ _=>True,trivial,fun _ _ _ _=>⟨fun _=>trivial,fun _=>trivial⟩,fun bj _=>?_⟩
 refine⟨Bn s1.2 _,Bn s2.1 _,Bn hb.2 _,x5 _,x5 _,x5 _,?_⟩
 have gV:(bj==12)=true→(tK (cY (cY x 32).2 32).2)∧qg (n9 (cY (cY x 32).2 32).2).1:=fun _=>⟨Vl s2.2,LQ (by rw[MH];exact tz s2.2.nX)⟩
 have fD: ∀v:Bool,(v=true→Bp (cY (cY x 32).2 32).2)∧(v=false→((bj==3)=false→(((bj==8)=true→((bj==8)=false→(bj==12)=true→(tK (cY (cY x 32).2 32).2)∧qg (n9 (cY (cY x 32).2 32).2).1))∧((bj==8)=false→((bj==9)=false→(bj==12)=true→(tK (cY (cY x 32).2 32).2)∧qg (n9 (cY (cY x 32).2 32).2).1))))):=
  fun v=>⟨fun _=>Vk s2.2,fun _ _=>⟨fun _ _=>gV,fun _ _=>gV⟩⟩
 exact⟨fun _=>fD _,fun _=>fD _⟩
end Go.aL
