/- num.Parse, Unhex and the cut at a byte are the reference's. Conditions: none. -/
import Derived.Test.YtmkpmgfieagphaaGreatDoorRLl
namespace Go.aM
open Go Go.ed
def qx(c:Int):Bool:=(decide (c≥48))&&(decide (c≤57))
def pq(a c:Int):Int:=IntKind.wrap .i64 ((IntKind.wrap .i64 ((10:Int)*a))+(IntKind.wrap .i64 (IntKind.wrap .u8 (c-(48:Int)))))
def kv(x:ByteArray):Nat→Nat→Int→Option Int
 |0,_,a=>some a
 |n+1,k,a=>bif qx (aC x (k:Int))then kv x n (k+1) (pq a (aC x (k:Int)))else none
def E8(o:Option Int):(Int × Bool)⊕Int:=match o with
 |none=>.inl (0,false)
 |some v=>.inr v
theorem M0{x:ByteArray}{b:Nat→Int→Step (Int × Bool) Int}(ae: ∀i c,b i c=bif qx (aC x (i:Int))then .bn (pq c (aC x (i:Int)))else bif((decide ((i:Int)>0))||(aC x (i:Int) != 45))then .ret (0,false)else .bn c):
 ∀(n k:Nat) (a:Int),0<k→bL b k n a=E8 (kv x n k a):=by
 intro n
 induction n with
 |zero=>intro k a _;rfl
 |succ n aR=>
  intro k a aj;unfold bL kv;rw[ae]
  cases qx (aC x (k:Int))with
  |true=>exact aR _ _ (Nat.succ_pos _)
  |false=>
   rw[decide_eq_true (show(k:Int)>0 by omega)]
   rfl
theorem M1{x:ByteArray}{b:Int × Int→Step (Int × Bool) (Int × Int)}(hx:x.size≤14)(ae: ∀c,b c=bif decide (c.2<(x.size:Int))then(bif((decide ((aC x c.2)<48))||(decide ((aC x c.2)>57)))then .ret (0,false)else .bn (pq c.1 (aC x c.2),IntKind.wrap .i64 (c.2+1)))else .b8 (c.1,c.2)):
 ∀(n k f:Nat) (a:Int),k+n=x.size→n<f→b4 b f (a,(k:Int))=match kv x n k a with|none=>.inl (0,false)|some v=>.inr (v,(x.size:Int)):=by
 intro n
 induction n with
 |zero=>
  intro k f a aj hf;obtain⟨f,rfl⟩: ∃g,f=g+1:=⟨f-1,by omega⟩
  unfold b4 kv;rw[ae];dsimp only;rw[decide_eq_false (show ¬(k:Int)<(x.size:Int)by omega)]
  have:k=x.size:=by omega
  subst this;rfl
 |succ n aR=>
  intro k f a aj hf;obtain⟨f,rfl⟩: ∃g,f=g+1:=⟨f-1,by omega⟩
  unfold b4 kv;rw[ae];dsimp only;rw[decide_eq_true (show(k:Int)<(x.size:Int)by omega)]
  have hd:qx (aC x (k:Int))= !((decide ((aC x (k:Int))<48))||(decide ((aC x (k:Int))>57))):=by
   unfold qx;generalize aC x (k:Int)=z
   by_cases aa:z<48
   ·rw[decide_eq_true aa,decide_eq_false (show ¬z≥48 by omega)];rfl
   ·by_cases ad:z>57
    ·rw[decide_eq_true ad,decide_eq_false (show ¬z≤57 by omega),Bool.and_false,Bool.or_true];rfl
    ·rw[decide_eq_false aa,decide_eq_false ad,decide_eq_true (show z≥48 by omega),decide_eq_true (show z≤57 by omega)];rfl
  rw[hd]
  cases ((decide ((aC x (k:Int))<48))||(decide ((aC x (k:Int))>57)))with
  |true=>rfl
  |false=>
   have w:IntKind.wrap .i64 ((k:Int)+1)=((k+1:Nat):Int):=by rw[c4 _ (by omega) (by omega)];omega
   simp only[cond_true,cond_false,Bool.not_false];rw[w];exact aR (k+1) f _ (by omega) (by omega)
noncomputable def x4(x:ByteArray)(o:Option Int):Int × Bool:=match o with
 |none=>(0,false)
 |some a=>bif((hQ (bif(aC x 0==45)then IntKind.wrap .i64 (0-a)else a) != (bif(aC x 0==45)then IntKind.wrap .i64 (0-a)else a))||a8 .neq (fN (bif(aC x 0==45)then IntKind.wrap .i64 (0-a)else a)) x)then(0,false)else(bif(aC x 0==45)then IntKind.wrap .i64 (0-a)else a,true)
noncomputable def x5(x:ByteArray):Int × Bool:=bif(((ByteArray.size x:Int)==0)||(decide ((x.size:Int)>14)))then(0,false)else x4 x (bif(aC x 0==45)then kv x (x.size-1) 1 0 else kv x x.size 0 0)
theorem Vb(x:ByteArray)(v:Int):(bif(hQ v != v)then(bif((hQ v != v)||(a8 .neq (⟨#[]⟩:ByteArray) x))then((0:Int),false)else(v,true))else(bif((hQ v != v)||(a8 .neq (fe v) x))then(0,false)else(v,true)))=bif((hQ v != v)||a8 .neq (fN v) x)then(0,false)else(v,true):=by
 cases (hQ v != v)<;>rfl
theorem M3(x:ByteArray):cK x=x5 x:=by
 unfold cK x5
 dsimp only
 simp only[Vb]
 cases h:(((ByteArray.size x:Int)==0)||(decide ((ByteArray.size x:Int)>14)))with
 |true=>rfl
 |false=>
  simp only[Bool.or_eq_false_iff,beq_eq_false_iff_ne,decide_eq_false_iff_not]at h;obtain⟨aa,ad⟩:=h;simp only[cond_false];rw[Int.toNat_natCast];obtain⟨n,hn⟩: ∃n,x.size=n+1:=⟨x.size-1,by omega⟩
  show Sum.elim (fun r=>r) (fun bj=>bif(aC x 0==45)then _ else _) (bL (fun(i:Nat) (c:Int)=>(bif qx (aC x (i:Int))then .bn (pq c (aC x (i:Int)))else bif((decide ((i:Int)>0))||(aC x (i:Int) != 45))then .ret (0,false)else .bn c:Step (Int × Bool) Int)) 0 x.size 0)=_
  have ao:(bL (fun(i:Nat) (c:Int)=>(bif qx (aC x (i:Int))then .bn (pq c (aC x (i:Int)))else bif((decide ((i:Int)>0))||(aC x (i:Int) != 45))then .ret (0,false)else .bn c:Step (Int × Bool) Int)) 0 x.size 0)=E8 (bif(aC x 0==45)then kv x (x.size-1) 1 0 else kv x x.size 0 0):=by
   rw[hn,Nat.add_sub_cancel];unfold bL
   by_cases rV:aC x 0=45
   ·have e:aC x ((0:Nat):Int)=45:=rV
    rw[e,rV];show bL _ 1 n 0=_;rw[M0 (x:=x) (fun _ _=>rfl) n 1 0 (by decide)]
    rfl
   ·have e:(aC x 0==45)=false:=by simpa using rV
    have aW:(aC x ((0:Nat):Int) != 45)=true:=by simpa using rV
    rw[e,cond_false,aW,Bool.or_true];show _=E8 (bif qx (aC x ((0:Nat):Int))then kv x n 1 (pq 0 (aC x ((0:Nat):Int)))else none)
    cases qx (aC x ((0:Nat):Int))with
    |true=>
     show bL _ 1 n _=_;rw[M0 (x:=x) (fun _ _=>rfl) n 1 _ (by decide)]
     rfl
    |false=>rfl
  rw[ao]
  cases (bif(aC x 0==45)then kv x (x.size-1) 1 0 else kv x x.size 0 0)with
  |none=>rfl
  |some a=>
   unfold x4
   cases h:(aC x 0==45)<;>rfl
theorem M4(v:Int):(hQ v != v)=((decide (v>1099511627776))||(decide (v<(-1099511627776)))):=by
 have e:hQ v=if(1099511627776:Int)<(if(-1099511627776:Int)>v then(-1099511627776:Int)else v)then(1099511627776:Int)else(if(-1099511627776:Int)>v then(-1099511627776:Int)else v):=rfl
 rw[e]
 by_cases aa:v>1099511627776
 ·have i1:(if(-1099511627776:Int)>v then(-1099511627776:Int)else v)=v:=if_neg (by omega)
  rw[i1,if_pos (show(1099511627776:Int)<v by omega),decide_eq_true aa,Bool.true_or,bne_iff_ne]
  omega
 ·by_cases ad:v< -1099511627776
  ·have i1:(if(-1099511627776:Int)>v then(-1099511627776:Int)else v)= -1099511627776:=if_pos (by omega)
   rw[i1,if_neg (show ¬(1099511627776:Int)< -1099511627776 by decide),decide_eq_true ad,Bool.or_true,bne_iff_ne]
   omega
  ·have i1:(if(-1099511627776:Int)>v then(-1099511627776:Int)else v)=v:=if_neg (by omega)
   rw[i1,if_neg (show ¬(1099511627776:Int)<v by omega),decide_eq_false aa,decide_eq_false ad]
   simp
theorem Vc(x:ByteArray):hR x=x5 x:=by
 unfold hR x5
 dsimp only
 by_cases l4:(x.size:Int)>14
 ·rw[decide_eq_true l4,Bool.or_true]
  rfl
 ·rw[decide_eq_false l4,Bool.or_false,cond_false]
  by_cases aU:(x.size:Int)=0
  ·have hx:x=⟨#[]⟩:=by
    have:x.size=0:=by omega
    exact ByteArray.ext (Array.eq_empty_of_size_eq_zero this)
   subst hx;rfl
  ·have lY:((x.size:Int)==0)=false:=by simpa using aU
   have he:a8 .eql x (⟨#[]⟩:ByteArray)=false:=by
    show bq x ⟨#[]⟩=false;rw[tB];intro h;subst h;exact aU rfl
   rw[lY,cond_false,he,decide_eq_true (show(x.size:Int)>0 by omega),Bool.true_and]
   simp only[Bool.false_or]
   cases rV:(aC x 0==45)with
   |true=>
    simp only[cond_true]
    have ao:=M1 (x:=x) (b:=fun(aw:Int × Int)=>bif decide (aw.2<(x.size:Int))then(bif((decide ((aC x aw.2)<48))||(decide ((aC x aw.2)>57)))then .ret (0,false)else .bn (pq aw.1 (aC x aw.2),IntKind.wrap .i64 (aw.2+1)))else .b8 (aw.1,aw.2)) (by omega) (fun _=>rfl) (x.size-1) 1 cn 0 (by omega) (by unfold cn;omega)
    show Sum.elim _ _ (b4 (fun(aw:Int × Int)=>bif decide (aw.2<(x.size:Int))then(bif((decide ((aC x aw.2)<48))||(decide ((aC x aw.2)>57)))then .ret (0,false)else .bn (pq aw.1 (aC x aw.2),IntKind.wrap .i64 (aw.2+1)))else .b8 (aw.1,aw.2):Int × Int→Step (Int × Bool) (Int × Int)) cn (0,((1:Nat):Int)))=_
    rw[ao]
    cases kv x (x.size-1) 1 0 with
    |none=>rfl
    |some a=>
     simp only[x4,rV,cond_true,M4];dsimp only[Sum.elim];show(bif((decide (IntKind.wrap .i64 (0-a)>1099511627776))||(decide (IntKind.wrap .i64 (0-a)< -1099511627776)))then _ else _)=_
     cases ((decide (IntKind.wrap .i64 (0-a)>1099511627776))||(decide (IntKind.wrap .i64 (0-a)< -1099511627776)))<;>rfl
   |false=>
    simp only[cond_false]
    have ao:=M1 (x:=x) (b:=fun(aw:Int × Int)=>bif decide (aw.2<(x.size:Int))then(bif((decide ((aC x aw.2)<48))||(decide ((aC x aw.2)>57)))then .ret (0,false)else .bn (pq aw.1 (aC x aw.2),IntKind.wrap .i64 (aw.2+1)))else .b8 (aw.1,aw.2)) (by omega) (fun _=>rfl) x.size 0 cn 0 (by omega) (by unfold cn;omega)
    show Sum.elim _ _ (b4 (fun(aw:Int × Int)=>bif decide (aw.2<(x.size:Int))then(bif((decide ((aC x aw.2)<48))||(decide ((aC x aw.2)>57)))then .ret (0,false)else .bn (pq aw.1 (aC x aw.2),IntKind.wrap .i64 (aw.2+1)))else .b8 (aw.1,aw.2):Int × Int→Step (Int × Bool) (Int × Int)) cn (0,((0:Nat):Int)))=_
    rw[ao]
    cases kv x x.size 0 0 with
    |none=>rfl
    |some a=>
     simp only[x4,rV,cond_false,M4];dsimp only[Sum.elim];show(bif((decide (a>1099511627776))||(decide (a< -1099511627776)))then _ else _)=_
     cases ((decide (a>1099511627776))||(decide (a< -1099511627776)))<;>rfl
theorem Bq(x:ByteArray):hR x=cK x:=by rw[Vc,M3]
end Go.aM
namespace Go.aM
open Go Go.ed
theorem M5{R:Type}{p:Nat→Bool}{f:Nat→R}{b:Nat→Unit→Step R Unit}(ae: ∀i c,b i c=bif p i then .ret (f i)else .bn ()):
 ∀(n k:Nat),bL b k n ()=match(List.range' k n).find? p with|some i=>.inl (f i)|none=>.inr ():=by
 intro n
 induction n with
 |zero=>intro k;rfl
 |succ n aR=>
  intro k;unfold bL;rw[ae,List.range'_succ,List.find?_cons]
  cases p k with
  |true=>rfl
  |false=>exact aR (k+1)
theorem Vd{x:ByteArray}{i:Nat}(h:i<x.size)(c:UInt8):(aC x (i:Int)==(c.toNat:Int))=(x[i]! ==c):=by
 obtain⟨_,e⟩:=xJ h
 have aW:x[i]! =x.data.toList.getD i 0:=by
  rw[getElem!_pos x i h,List.getD_eq_getElem?_getD,List.getElem?_eq_getElem (show i<x.data.toList.length from h)]
  rfl
 rw[e,aW]
 generalize x.data.toList.getD i 0=a
 by_cases h:a=c
 ·subst h;simp
 ·have aa:(a==c)=false:=by simpa using h
  rw[aa,beq_eq_false_iff_ne];intro ad;exact h (UInt8.toNat_inj.1 (by omega))
theorem M6(x:ByteArray)(c:UInt8):eV x (c.toNat:Int)=match(List.range' 0 x.size).find? (fun i:Nat=>aC x (i:Int)==(c.toNat:Int))with|some i=>(i:Int)|none=> -1:=by
 have e:(List.range' 0 x.size).find? (fun i:Nat=>aC x (i:Int)==(c.toNat:Int))=(List.range x.size).find? fun i:Nat=>x[i]! ==(c.toNat:Int).toNat.toUInt8:=by
  rw[List.range_eq_range']
  have hc:((c.toNat:Int).toNat.toUInt8:UInt8)=c:=by rw[Int.toNat_natCast];exact UInt8.ofNat_toNat
  rw[hc]
  have: ∀l:List Nat,(∀i∈l,i<x.size)→l.find? (fun i:Nat=>aC x (i:Int)==(c.toNat:Int))=l.find? fun i:Nat=>x[i]! ==c:=by
   intro l
   induction l with
   |nil=>intro _;rfl
   |cons a l aR=>
    intro h;rw[List.find?_cons,List.find?_cons,Vd (h a (List.mem_cons_self ..)) c,aR fun i hi=>h i (List.mem_cons_of_mem _ hi)]
  exact this _ fun i hi=>by rw[List.mem_range'_1]at hi;omega
 rw[e]
 rfl
def aO(c:UInt8)(x:ByteArray):ByteArray × ByteArray × Bool:=match(List.range' 0 x.size).find? (fun i:Nat=>aC x (i:Int)==(c.toNat:Int))with
 |some i=>(x.extract 0 i,x.extract (i+1) x.size,true)
 |none=>(x,⟨#[]⟩,false)
theorem qy{x:ByteArray}(hx:bz x)(c:UInt8):cv x (c.toNat:Int)=((aO c x).1,(aO c x).2.1):=by
 unfold bz at hx
 have h:=M5 (p:=fun i:Nat=>aC x (i:Int)==(c.toNat:Int)) (f:=fun i:Nat=>((bk x none (some (i:Int))),(bk x (some (IntKind.wrap .i64 ((i:Int)+(1:Int)))) none))) (b:=fun(i3:Nat) (_:Unit)=>bif((aC x (i3:Int))==(c.toNat:Int))then Step.ret ((bk x none (some (i3:Int))),(bk x (some (IntKind.wrap .i64 ((i3:Int)+(1:Int)))) none))else .bn ()) (fun _ _=>rfl) x.size 0
 unfold cv
 dsimp only
 rw[Int.toNat_natCast]
 show Sum.elim _ _ (bL (fun(i3:Nat) (_:Unit)=>bif((aC x (i3:Int))==(c.toNat:Int))then Step.ret ((bk x none (some (i3:Int))),(bk x (some (IntKind.wrap .i64 ((i3:Int)+(1:Int)))) none))else .bn ()) 0 x.size ())=_
 rw[h]
 unfold aO
 cases hf:(List.range' 0 x.size).find? (fun i:Nat=>aC x (i:Int)==(c.toNat:Int))with
 |none=>rfl
 |some i=>
  have hi:=List.mem_of_find?_eq_some hf
  rw[List.mem_range'_1]at hi
  have w:IntKind.wrap .i64 ((i:Int)+(1:Int))=((i+1:Nat):Int):=by rw[c4 _ (by omega) (by omega)];omega
  show(x.extract 0 ((i:Int)).toNat,x.extract (IntKind.wrap .i64 ((i:Int)+(1:Int))).toNat x.size)=_;rw[w,Int.toNat_natCast,Int.toNat_natCast]
theorem M7(c:UInt8):aC (⟨#[c]⟩:ByteArray) 0=(c.toNat:Int):=rfl
theorem vA{α:Type}{x:ByteArray}(hx:bz x)(c:UInt8)(K:ByteArray→ByteArray→Bool→α):qv c x K=K (aO c x).1 (aO c x).2.1 (aO c x).2.2:=by
 unfold bz at hx
 have Ve:(bif decide (eV x (aC (⟨#[c]⟩:ByteArray) 0)≥0)then K (bk x none (some (eV x (aC (⟨#[c]⟩:ByteArray) 0)))) (bk x (some (IntKind.wrap .i64 (eV x (aC (⟨#[c]⟩:ByteArray) 0)+(1:Int)))) none) true else K x (⟨#[]⟩:ByteArray) false)=K (aO c x).1 (aO c x).2.1 (aO c x).2.2:=by
  rw[M7,M6];unfold aO
  cases hf:(List.range' 0 x.size).find? (fun i:Nat=>aC x (i:Int)==(c.toNat:Int))with
  |none=>rfl
  |some i=>
   have hi:=List.mem_of_find?_eq_some hf
   rw[List.mem_range'_1]at hi
   have w:IntKind.wrap .i64 ((i:Int)+(1:Int))=((i+1:Nat):Int):=by rw[c4 _ (by omega) (by omega)];omega
   dsimp only;rw[decide_eq_true (show(i:Int)≥0 by omega),cond_true,w]
   show K (x.extract 0 ((i:Int)).toNat) (x.extract (((i+1:Nat):Int)).toNat x.size) true=_;rw[Int.toNat_natCast,Int.toNat_natCast]
 unfold qv
 rw[Ve]
 cases h:a8 .eql (⟨#[c]⟩:ByteArray) x with
 |false=>rfl
 |true=>
  have h:bq (⟨#[c]⟩:ByteArray) x=true:=h
  rw[xU]at h;subst h;rw[cond_true,decide_eq_true (show(0:Int)≥0 by decide),cond_true]
  have hf:aO c (⟨#[c]⟩:ByteArray)=((⟨#[c]⟩:ByteArray).extract 0 0,(⟨#[c]⟩:ByteArray).extract 1 1,true):=by
   unfold aO
   have:(List.range' 0 (⟨#[c]⟩:ByteArray).size).find? (fun i:Nat=>aC (⟨#[c]⟩:ByteArray) (i:Int)==(c.toNat:Int))=some 0:=by
    show(List.range' 0 1).find? _=_;rw[List.range'_succ,List.find?_cons]
    have:(aC (⟨#[c]⟩:ByteArray) ((0:Nat):Int)==(c.toNat:Int))=true:=by
     rw[beq_iff_eq];exact M7 c
    rw[this]
   rw[this];rfl
  rw[hf];rfl
theorem kY{c:UInt8}{x:ByteArray}(hx:bz x):bz (aO c x).1∧bz (aO c x).2.1:=by
 unfold bz at hx
 unfold aO
 split
 ·unfold bz
  dsimp only;rw[ByteArray.size_extract,ByteArray.size_extract];omega
 ·exact⟨hx,Nat.zero_le _⟩
theorem Vf: ∀n:Nat,n<256→tI (n:Int)=tJ (n:Int):=by decide+kernel
theorem M8(x:ByteArray):oj x=gr x:=by
 have h: ∀z:Int,tI (aC x z)=tJ (aC x z):=by
  intro z;obtain⟨n,e,hn⟩:=qm x z;rw[e];exact Vf n hn
 unfold oj gr
 simp only[h]
 rfl
end Go.aM
namespace Go.aM
open Go Go.ed
noncomputable def dZ(u:UInt8):List UInt8:=(lz (u.toNat:Int)).data.toList
theorem M9(l:List UInt8):(l.map fun u=>(u.toNat:Int)).map (fun n=>UInt8.ofNat n.toNat)=l:=by
 rw[List.map_map]
 conv=>rhs;rw[←List.map_id l]
 apply List.map_congr_left
 intro u _
 show UInt8.ofNat ((u.toNat:Int)).toNat=u
 rw[Int.toNat_natCast]
 exact UInt8.ofNat_toNat
theorem E9(s:ByteArray):bytesOf (s.data.toList.map fun u=>(u.toNat:Int))=s:=mB (by rw[Az,M9])
theorem Vg(s:ByteArray): ∀(n k:Nat),k+n=s.size→(og (fun i=>qn (aC s (i:Int))) k n).map (fun n=>UInt8.ofNat n.toNat)=(s.data.toList.drop k).flatMap dZ:=by
 intro n
 induction n with
 |zero=>
  intro k aj;rw[List.drop_eq_nil_of_le (show s.data.toList.length≤k by have:s.data.toList.length=s.size:=rfl;omega)]
  rfl
 |succ n aR=>
  intro k aj
  have ao:k<s.data.toList.length:=by have:s.data.toList.length=s.size:=rfl;omega
  rw[og,List.map_append,aR (k+1) (by omega),List.drop_eq_getElem_cons ao,List.flatMap_cons]
  congr 1
  have e:aC s (k:Int)=((s.data.toList[k]'ao).toNat:Int):=by
   rw[(xJ (s:=s) (by omega)).2,List.getD_eq_getElem?_getD,List.getElem?_eq_getElem ao]
   rfl
  rw[e];show((dZ _).map fun u=>(u.toNat:Int)).map _=_;rw[M9]
theorem Fa(s:ByteArray):(mL s).data.toList=34::(s.data.toList.flatMap dZ++[34]):=by
 unfold mL
 rw[Az,List.map_append,List.map_append,Vg s s.size 0 (by omega)]
 rfl
inductive Br (u:UInt8):Prop
 |one:dZ u=[u]→u≠34→u≠92→Br u
 |two:dZ u=[92,u]→(u=34∨u=92)→Br u
 |four (a b:UInt8):dZ u=[92,120,a,b]→0≤jq (a.toNat:Int)→0≤jq (b.toNat:Int)→
  IntKind.wrap .u8 (ba .or .i64 (ba .shl .i64 (jq (a.toNat:Int)) (4:Int)) (jq (b.toNat:Int)))=(u.toNat:Int)→0≤hT (a.toNat:Int)→0≤hT (b.toNat:Int)→
  IntKind.wrap .u8 (IntKind.wrap .i64 ((IntKind.wrap .i64 ((16:Int)*hT (a.toNat:Int)))+hT (b.toNat:Int)))=(u.toNat:Int)→Br u
theorem Vh: ∀n:Nat,n<256→(dZ (UInt8.ofNat n)=[UInt8.ofNat n]∧UInt8.ofNat n≠34∧UInt8.ofNat n≠92)∨(dZ (UInt8.ofNat n)=[92,UInt8.ofNat n]∧(UInt8.ofNat n=34∨UInt8.ofNat n=92))∨
 (dZ (UInt8.ofNat n)=[92,120,(dZ (UInt8.ofNat n)).getD 2 0,(dZ (UInt8.ofNat n)).getD 3 0]∧0≤jq (((dZ (UInt8.ofNat n)).getD 2 0).toNat:Int)∧0≤jq (((dZ (UInt8.ofNat n)).getD 3 0).toNat:Int)∧
  IntKind.wrap .u8 (ba .or .i64 (ba .shl .i64 (jq (((dZ (UInt8.ofNat n)).getD 2 0).toNat:Int)) (4:Int)) (jq (((dZ (UInt8.ofNat n)).getD 3 0).toNat:Int)))=(n:Int)∧0≤hT (((dZ (UInt8.ofNat n)).getD 2 0).toNat:Int)∧0≤hT (((dZ (UInt8.ofNat n)).getD 3 0).toNat:Int)∧
  IntKind.wrap .u8 (IntKind.wrap .i64 ((IntKind.wrap .i64 ((16:Int)*hT (((dZ (UInt8.ofNat n)).getD 2 0).toNat:Int)))+hT (((dZ (UInt8.ofNat n)).getD 3 0).toNat:Int)))=(n:Int)):=by decide+kernel
theorem Fb(u:UInt8):Br u:=by
 have h:=Vh u.toNat (UInt8.toNat_lt u)
 rw[show UInt8.ofNat u.toNat=u from UInt8.ofNat_toNat]at h
 rcases h with⟨aa,ad,aq⟩|⟨aa,ad⟩|⟨aa,ad,aq,aS,bC,cC,dB⟩
 ·exact .one aa ad aq
 ·exact .two aa ad
 ·exact .four _ _ aa ad aq aS bC cC dB
theorem jr{x:ByteArray}{l:List UInt8}(h:x.data.toList=l)(k:Nat):aC x (k:Int)=((l.getD k 0).toNat:Int):=by
 subst h
 unfold aC
 rw[Int.toNat_natCast]
theorem nE{x:ByteArray}{l:List UInt8}(h:x.data.toList=l):x.size=l.length:=by subst h;rfl
theorem Fc{x:ByteArray}{l:List UInt8}(h:x.data.toList=l)(k:Nat):(bk x none (some (k:Int))).data.toList=l.take k:=by
 subst h
 show(x.extract 0 ((k:Int)).toNat).data.toList=_
 rw[Int.toNat_natCast,ByteArray.data_extract,Array.toList_extract]
 simp[List.extract]
theorem Na{x:ByteArray}{l:List UInt8}(h:x.data.toList=l)(k:Nat):(bk x (some (k:Int)) none).data.toList=l.drop k:=by
 subst h
 show(x.extract ((k:Int)).toNat x.size).data.toList=_
 rw[Int.toNat_natCast,qc]
theorem ne_nil{x:ByteArray}{a:UInt8}{l:List UInt8}(h:x.data.toList=a::l):a8 .eql x (⟨#[]⟩:ByteArray)=false:=by
 show bq x ⟨#[]⟩=false
 rw[tB]
 intro e
 rw[e]at h
 cases h
theorem x6{a b:ByteArray}(h:a=b):a8 .neq a b=false:=by
 show(!bq a b)=false
 rw[h,xu]
 rfl
theorem tK{a b:UInt8}:(a.toNat:Int)=(b.toNat:Int)↔a=b:=by
 rw[Int.ofNat_inj,UInt8.toNat_inj]
theorem Vi{y:ByteArray}{u:UInt8}{t:List UInt8}(h:y.data.toList=dZ u++t):fI y=((u.toNat:Int),((dZ u).length:Int)):=by
 rcases Fb u with⟨aa,ad,aq⟩|⟨aa,ad⟩|⟨a,b,aa,ad,aq,aS,bC,cC,dB⟩
 ·have ao:y.data.toList=u::t:=by rw[h,aa];rfl
  have gu:aC y 0=(u.toNat:Int):=jr ao 0
  have x7:(aC y 0==34)=false:=by rw[gu,beq_eq_false_iff_ne];exact fun e=>ad (tK.1 (show(u.toNat:Int)=((34:UInt8).toNat:Int)from e))
  have Fe:(aC y 0 != 92)=true:=by rw[gu,bne_iff_ne];exact fun e=>aq (tK.1 (show(u.toNat:Int)=((92:UInt8).toNat:Int)from e))
  have aA:a8 .neq (lz (aC y 0)) (bk y none (some 1))=false:=x6 (mB (by
   have pa:(bk y none (some 1)).data.toList=List.take 1 (u::t):=Fc ao 1
   rw[gu,pa];show dZ u=_;rw[aa]
   rfl))
  unfold fI;rw[ne_nil ao,x7,Fe,aA,gu,aa];rfl
 ·have ao:y.data.toList=92::u::t:=by rw[h,aa];rfl
  have gu:aC y 0=92:=jr ao 0
  have eT:aC y 1=(u.toNat:Int):=jr ao 1
  have ag:(y.size:Int)≥2:=by rw[nE ao];simp only[List.length_cons];omega
  have aA:((aC y 1==34)||(aC y 1==92))=true:=by
   rw[eT]
   rcases ad with e|e<;>subst e<;>rfl
  unfold fI;rw[ne_nil ao,gu,aa];dsimp only;rw[aA,decide_eq_true ag,eT];rfl
 ·have ao:y.data.toList=92::120::a::b::t:=by rw[h,aa];rfl
  have gu:aC y 0=92:=jr ao 0
  have eT:aC y 1=120:=jr ao 1
  have gK:aC y 2=(a.toNat:Int):=jr ao 2
  have gf:aC y 3=(b.toNat:Int):=jr ao 3
  have ag:(y.size:Int)≥4:=by rw[nE ao];simp only[List.length_cons];omega
  have aA:a8 .neq (lz (u.toNat:Int)) (bk y none (some 4))=false:=x6 (mB (by
   have pa:(bk y none (some 4)).data.toList=List.take 4 (92::120::a::b::t):=Fc ao 4
   rw[pa];show dZ u=_;rw[aa]
   rfl))
  unfold fI;rw[ne_nil ao,gu,eT,gK,gf,aa];dsimp only;rw[decide_eq_true (show(y.size:Int)≥2 by omega),decide_eq_false (show ¬(y.size:Int)<4 by omega),decide_eq_false (show ¬jq (a.toNat:Int)<0 by omega),decide_eq_false (show ¬jq (b.toNat:Int)<0 by omega),aS,aA]
  rfl
theorem Ff(u:UInt8): ∃a l,dZ u=a::l∧a≠34:=by
 rcases Fb u with⟨aa,ad,_⟩|⟨aa,_⟩|⟨a,b,aa,_⟩
 ·exact⟨_,_,aa,ad⟩
 ·exact⟨_,_,aa,by decide⟩
 ·exact⟨_,_,aa,by decide⟩
theorem Bs(p l:List UInt8):(p++l).getD p.length 0=l.getD 0 0:=by
 rw[List.getD_eq_getElem?_getD,List.getElem?_append_right (Nat.le_refl _),Nat.sub_self,List.getD_eq_getElem?_getD]
theorem Vj{x:ByteArray}(hx:bz x){B:Int × List Int × Bool→Step (ByteArray × Int) (Int × List Int × Bool)}
 (gb: ∀aw,B aw=bif((decide (aw.1<(ByteArray.size x:Int)))&&((aC x aw.1) != 34))then(bif((fI (bk x (some aw.1) none)).2==0)then .ret (⟨#[]⟩,0)else bif !aw.2.2 then .bn ((IntKind.wrap .i64 (aw.1+(fI (bk x (some aw.1) none)).2)),(List.append aw.2.1 ([(fI (bk x (some aw.1) none)).1]:List Int)),true)else .bn ((IntKind.wrap .i64 (aw.1+(fI (bk x (some aw.1) none)).2)),(List.append aw.2.1 ([(fI (bk x (some aw.1) none)).1]:List Int)),aw.2.2))else .b8 (aw.1,aw.2.1,aw.2.2)):
 ∀(us pre:List UInt8) (acc:List Int) (rW:Bool) (f:Nat),x.data.toList=pre++(us.flatMap dZ++[34])→us.length<f→
  ∃Fg,b4 B f ((pre.length:Int),acc,rW)= .inr (((x.size-1:Nat):Int),acc++us.map (fun u=>(u.toNat:Int)),Fg):=by
 intro us
 induction us with
 |nil=>
  intro pre acc rW f h hf;obtain⟨f,rfl⟩: ∃g,f=g+1:=⟨f-1,by omega⟩
  have b:aC x (pre.length:Int)=34:=by
   rw[jr h,Bs];rfl
  have ag:x.size=pre.length+1:=by rw[nE h];simp
  refine⟨rW,?_⟩
  unfold b4;rw[gb];dsimp only;rw[b];simp only[bne_self_eq_false,Bool.and_false,cond_false];rw[ag,Nat.add_sub_cancel,List.map_nil,List.append_nil]
 |cons u us aR=>
  intro pre acc rW f h hf;obtain⟨f,rfl⟩: ∃g,f=g+1:=⟨f-1,by omega⟩
  obtain⟨a,l,aI,hn⟩:=Ff u;rw[List.flatMap_cons,List.append_assoc]at h
  have b:aC x (pre.length:Int)=(a.toNat:Int):=by
   rw[jr h,Bs,aI];rfl
  have x7:(aC x (pre.length:Int) != 34)=true:=by rw[b,bne_iff_ne];exact fun e=>hn (tK.1 (show(a.toNat:Int)=((34:UInt8).toNat:Int)from e))
  have ag:x.size=pre.length+((dZ u).length+((us.flatMap dZ).length+1)):=by rw[nE h];simp[List.length_append]
  have m:fI (bk x (some (pre.length:Int)) none)=((u.toNat:Int),((dZ u).length:Int)):=Vi (t:=us.flatMap dZ++[34]) (by
   rw[Na h,List.drop_append_of_le_length (Nat.le_refl _),List.drop_length,List.nil_append])
  have aL:0<(dZ u).length:=by rw[aI];exact Nat.succ_pos _
  unfold bz at hx
  have w:IntKind.wrap .i64 ((pre.length:Int)+((dZ u).length:Int))=(((pre++dZ u).length:Nat):Int):=by
   rw[List.length_append,c4 _ (by omega) (by omega)]
   omega
  obtain⟨Fg,hi⟩:=aR (pre++dZ u) (acc++[(u.toNat:Int)]) (bif !rW then true else rW) f (by rw[List.append_assoc];exact h) (by simp only[List.length_cons]at hf;omega)
  refine⟨Fg,?_⟩
  unfold b4;rw[gb];dsimp only;rw[x7,decide_eq_true (show(pre.length:Int)<(x.size:Int)by omega),m]
  have n0:(((dZ u).length:Int)==0)=false:=by rw[beq_eq_false_iff_ne];omega
  simp only[Bool.and_true,cond_true,n0,cond_false,w];rw[List.append_assoc]at hi
  cases rW
  ·exact hi
  ·exact hi
theorem Vk{x s:ByteArray}(hx:bz x)(h:x=mL s):x8 x=(s,(x.size:Int)):=by
 have ao:x.data.toList=34::(s.data.toList.flatMap dZ++[34]):=by rw[h,Fa]
 have gu:(aC x 0 != 34)=false:=by
  show(aC x ((0:Nat):Int) != 34)=false;rw[jr ao 0];rfl
 have ag:x.size=1+((s.data.toList.flatMap dZ).length+1):=by rw[nE ao];simp;omega
 obtain⟨rW,hw⟩:=Vj hx (B:=fun aw=>bif((decide (aw.1<(ByteArray.size x:Int)))&&((aC x aw.1) != 34))then(bif((fI (bk x (some aw.1) none)).2==0)then .ret (⟨#[]⟩,0)else bif !aw.2.2 then .bn ((IntKind.wrap .i64 (aw.1+(fI (bk x (some aw.1) none)).2)),(List.append aw.2.1 ([(fI (bk x (some aw.1) none)).1]:List Int)),true)else .bn ((IntKind.wrap .i64 (aw.1+(fI (bk x (some aw.1) none)).2)),(List.append aw.2.1 ([(fI (bk x (some aw.1) none)).1]:List Int)),aw.2.2))else .b8 (aw.1,aw.2.1,aw.2.2)) (fun _=>rfl) s.data.toList [34] [] false cn ao (by
  have:s.data.toList.length≤(s.data.toList.flatMap dZ).length:=by
   generalize s.data.toList=us
   induction us with
   |nil=>exact Nat.le_refl _
   |cons u us aR=>
    obtain⟨a,l,aI,_⟩:=Ff u;rw[List.flatMap_cons,List.length_append,aI];simp only[List.length_cons];omega
  unfold bz at hx;unfold cn
  omega)
 unfold x8
 rw[ne_nil ao,gu]
 simp only[Bool.or_self,cond_false]
 show Sum.elim _ _ (b4 (fun aw=>bif((decide (aw.1<(ByteArray.size x:Int)))&&((aC x aw.1) != 34))then(bif((fI (bk x (some aw.1) none)).2==0)then .ret (⟨#[]⟩,0)else bif !aw.2.2 then .bn ((IntKind.wrap .i64 (aw.1+(fI (bk x (some aw.1) none)).2)),(List.append aw.2.1 ([(fI (bk x (some aw.1) none)).1]:List Int)),true)else .bn ((IntKind.wrap .i64 (aw.1+(fI (bk x (some aw.1) none)).2)),(List.append aw.2.1 ([(fI (bk x (some aw.1) none)).1]:List Int)),aw.2.2))else .b8 (aw.1,aw.2.1,aw.2.2):Int × List Int × Bool→Step (ByteArray × Int) (Int × List Int × Bool)) cn ((([34]:List UInt8).length:Int),[],false))=_
 rw[hw]
 unfold bz at hx
 have w:IntKind.wrap .i64 (((x.size-1:Nat):Int)+1)=(x.size:Int):=by rw[c4 _ (by omega) (by omega)];omega
 dsimp only[Sum.elim]
 rw[decide_eq_false (show ¬((x.size-1:Nat):Int)≥(x.size:Int)by omega),cond_false,w,List.nil_append,E9]
theorem Vl{x s:ByteArray}(hx:bz x)(h:x=mL s)(ag:s.size≤60):qu x=(s,0):=by
 have ao:x.data.toList=34::(s.data.toList.flatMap dZ++[34]):=by rw[h,Fa]
 have bu:x.size=1+((s.data.toList.flatMap dZ).length+1):=by rw[nE ao];simp;omega
 unfold qu
 rw[Vk hx h]
 dsimp only
 have n0:((x.size:Int)==0)=false:=by rw[beq_eq_false_iff_ne];omega
 rw[n0,bne_self_eq_false,decide_eq_false (show ¬(s.size:Int)>60 by omega)]
 rfl
end Go.aM
namespace Go.aM
open Go Go.ed
noncomputable def vB(x:ByteArray)(aw:Int × List Int):Step (ByteArray × Int) (Int × List Int):=
 bif((decide (aw.1<(x.size:Int)))&&((aC x aw.1) != 34))then
  bif((aC x aw.1) != 92)then .bn ((IntKind.wrap .i64 (aw.1+(1:Int))),(List.append aw.2 ([(aC x aw.1)]:List Int)))
  else bif((decide ((IntKind.wrap .i64 (aw.1+(1:Int)))<(x.size:Int)))&&(((aC x (IntKind.wrap .i64 (aw.1+(1:Int))))==34)||((aC x (IntKind.wrap .i64 (aw.1+(1:Int))))==92)))then .bn ((IntKind.wrap .i64 (aw.1+(2:Int))),(List.append aw.2 ([(aC x (IntKind.wrap .i64 (aw.1+(1:Int))))]:List Int)))
  else
   let v31:Bool:=(decide ((IntKind.wrap .i64 (aw.1+(3:Int)))<(x.size:Int)))&&((aC x (IntKind.wrap .i64 (aw.1+(1:Int))))==120)
   let ay:Int→Step (ByteArray × Int) (Int × (List Int)):=fun fy=>
    let kZ:Bool:=v31&&(decide (fy≥0))
    let ay:Int→Step (ByteArray × Int) (Int × (List Int)):=fun qz=>
     bif(kZ&&(decide (qz≥0)))then
      let v51:List Int:=([(IntKind.wrap .u8 (IntKind.wrap .i64 ((IntKind.wrap .i64 ((16:Int)*(hT (aC x (IntKind.wrap .i64 (aw.1+(2:Int)))))))+(hT (aC x (IntKind.wrap .i64 (aw.1+(3:Int))))))))]:List Int)
      .bn ((IntKind.wrap .i64 (aw.1+(4:Int))),(List.append aw.2 v51))
     else .ret (⟨#[]⟩,(-1))
    bif kZ then ay (hT (aC x (IntKind.wrap .i64 (aw.1+(3:Int)))))else ay (0:Int)
   bif v31 then ay (hT (aC x (IntKind.wrap .i64 (aw.1+(2:Int)))))else ay (0:Int)
 else .b8 (aw.1,aw.2)
theorem Vm{x:ByteArray}{p l:List UInt8}(h:x.data.toList=p++l)(hx:bz x)(k:Nat)(aj:k<5):IntKind.wrap .i64 ((p.length:Int)+(k:Int))=((p.length+k:Nat):Int)∧aC x ((p.length+k:Nat):Int)=((l.getD k 0).toNat:Int):=by
 have ag:x.size=p.length+l.length:=by rw[nE h,List.length_append]
 unfold bz at hx
 refine⟨by rw[c4 _ (by omega) (by omega)];omega,?_⟩
 rw[jr h,List.getD_eq_getElem?_getD,List.getElem?_append_right (Nat.le_add_right _ _),Nat.add_sub_cancel_left,←List.getD_eq_getElem?_getD]
theorem Vn{x:ByteArray}{p t:List UInt8}{u:UInt8}{acc:List Int}(h:x.data.toList=p++(dZ u++t))(hx:bz x):vB x ((p.length:Int),acc)= .bn (((p++dZ u).length:Nat),acc++[(u.toNat:Int)]):=by
 have g:=Vm h hx
 obtain⟨_,gu⟩:=g 0 (by decide)
 obtain⟨cq,eT⟩:=g 1 (by decide)
 obtain⟨cy,gK⟩:=g 2 (by decide)
 obtain⟨im,gf⟩:=g 3 (by decide)
 obtain⟨mQ,_⟩:=g 4 (by decide)
 have ag:x.size=p.length+((dZ u).length+t.length):=by rw[nE h,List.length_append,List.length_append]
 have cq:IntKind.wrap .i64 ((p.length:Int)+1)=((p.length+1:Nat):Int):=cq
 have cy:IntKind.wrap .i64 ((p.length:Int)+2)=((p.length+2:Nat):Int):=cy
 have im:IntKind.wrap .i64 ((p.length:Int)+3)=((p.length+3:Nat):Int):=im
 have mQ:IntKind.wrap .i64 ((p.length:Int)+4)=((p.length+4:Nat):Int):=mQ
 have gu:aC x (p.length:Int)=(((dZ u++t).getD 0 0).toNat:Int):=gu
 rw[List.length_append]
 unfold vB
 dsimp only
 rw[cq,cy,im,mQ,gu,eT,gK,gf]
 rcases Fb u with⟨aa,ad,aq⟩|⟨aa,ad⟩|⟨a,b,aa,ad,aq,aS,bC,cC,dB⟩
 ·rw[aa]at ag⊢
  simp only[List.length_cons,List.length_nil]at ag
  have x7:((((([u]++t).getD 0 0).toNat:Nat):Int) != 34)=true:=by rw[bne_iff_ne];exact fun e=>ad (tK.1 (show(u.toNat:Int)=((34:UInt8).toNat:Int)from e))
  have Fe:((((([u]++t).getD 0 0).toNat:Nat):Int) != 92)=true:=by rw[bne_iff_ne];exact fun e=>aq (tK.1 (show(u.toNat:Int)=((92:UInt8).toNat:Int)from e))
  rw[x7,Fe,decide_eq_true (show(p.length:Int)<(x.size:Int)by omega)]
  rfl
 ·rw[aa]at ag⊢
  simp only[List.length_cons,List.length_nil]at ag
  have aA:((((([92,u]++t).getD 1 0).toNat:Nat):Int)==34||(((([92,u]++t).getD 1 0).toNat:Nat):Int)==92)=true:=by
   rcases ad with e|e<;>subst e<;>rfl
  rw[decide_eq_true (show(p.length:Int)<(x.size:Int)by omega),decide_eq_true (show((p.length+1:Nat):Int)<(x.size:Int)by omega),aA]
  rfl
 ·rw[aa]at ag⊢
  simp only[List.length_cons,List.length_nil]at ag;rw[decide_eq_true (show(p.length:Int)<(x.size:Int)by omega),decide_eq_true (show((p.length+3:Nat):Int)<(x.size:Int)by omega)]
  have aW:((([92,120,a,b]++t).getD 2 0).toNat:Int)=(a.toNat:Int):=rfl
  have cr:((([92,120,a,b]++t).getD 3 0).toNat:Int)=(b.toNat:Int):=rfl
  have aA:((([92,120,a,b]++t).getD 1 0).toNat:Int)=120:=rfl
  have lY:((([92,120,a,b]++t).getD 0 0).toNat:Int)=92:=rfl
  rw[lY,aA,aW,cr,decide_eq_true (show hT (a.toNat:Int)≥0 by omega),decide_eq_true (show hT (b.toNat:Int)≥0 by omega),dB,show((120:Int)==34||(120:Int)==92)=false from rfl,Bool.and_false]
  rfl
theorem Vo{x:ByteArray}(hx:bz x): ∀(us pre:List UInt8) (acc:List Int) (f:Nat),x.data.toList=pre++(us.flatMap dZ++[34])→us.length<f→
      b4 (vB x) f ((pre.length:Int),acc)= .inr (((x.size-1:Nat):Int),acc++us.map (fun u=>(u.toNat:Int))):=by
  intro us
  induction us with
  |nil=>
    intro pre acc f h hf;obtain⟨f,rfl⟩: ∃g,f=g+1:=⟨f-1,by omega⟩
    have b:aC x (pre.length:Int)=34:=by
      rw[jr h,Bs];rfl
    have ag:x.size=pre.length+1:=by rw[nE h];simp
    unfold b4 vB;dsimp only;rw[b];simp only[bne_self_eq_false,Bool.and_false,cond_false];rw[ag,Nat.add_sub_cancel,List.map_nil,List.append_nil]
  |cons u us aR=>
    intro pre acc f h hf;obtain⟨f,rfl⟩: ∃g,f=g+1:=⟨f-1,by omega⟩
    rw[List.flatMap_cons,List.append_assoc]at h
    have hi:=aR (pre++dZ u) (acc++[(u.toNat:Int)]) f (by rw[List.append_assoc];exact h) (by simp only[List.length_cons]at hf;omega)
    unfold b4;rw[Vn h hx];rw[List.append_assoc]at hi;exact hi
theorem Vp(us:List UInt8):us.length≤(us.flatMap dZ).length:=by
 induction us with
 |nil=>exact Nat.le_refl _
 |cons u us aR=>
  obtain⟨a,l,aI,_⟩:=Ff u;rw[List.flatMap_cons,List.length_append,aI];simp only[List.length_cons];omega
theorem Vq{x s:ByteArray}(hx:bz x)(h:x=mL s):x9 x 0=(s,(x.size:Int)):=by
  have ao:x.data.toList=34::(s.data.toList.flatMap dZ++[34]):=by rw[h,Fa]
  have gu:(aC x 0 != 34)=false:=by
    show(aC x ((0:Nat):Int) != 34)=false;rw[jr ao 0];rfl
  have ag:x.size=1+((s.data.toList.flatMap dZ).length+1):=by rw[nE ao];simp;omega
  have hw:=Vo hx s.data.toList [34] [] cn ao (by
    have:=Vp s.data.toList
    unfold bz at hx;unfold cn
    omega)
  unfold bz at hx
  have Vr:x9 x 0=(bif((decide ((0:Int)≥(x.size:Int)))||((aC x 0) != 34))then(⟨#[]⟩,(-1))else Sum.elim (fun r=>r) (fun bj=>bif decide (bj.1≥(x.size:Int))then(bif(decide (bj.1≥(x.size:Int))||a8 .neq (⟨#[]⟩:ByteArray) (bk x (some 0) (some (IntKind.wrap .i64 (bj.1+(1:Int))))))then(⟨#[]⟩,(-1))else((bytesOf bj.2),(IntKind.wrap .i64 (bj.1+(1:Int)))))
      else(bif(decide (bj.1≥(x.size:Int))||a8 .neq (vp (bytesOf bj.2)) (bk x (some 0) (some (IntKind.wrap .i64 (bj.1+(1:Int))))))then(⟨#[]⟩,(-1))else((bytesOf bj.2),(IntKind.wrap .i64 (bj.1+(1:Int)))))) (b4 (vB x) cn (1,[]):(ByteArray × Int)⊕(Int × List Int))):=by kernel_rfl
  have hw:b4 (vB x) cn ((1:Int),[])= .inr (((x.size-1:Nat):Int),[]++s.data.toList.map (fun u=>(u.toNat:Int))):=hw
  rw[Vr,gu,decide_eq_false (show ¬(0:Int)≥(x.size:Int)by omega),hw]
  simp only[Bool.or_self,cond_false]
  have w:IntKind.wrap .i64 (((x.size-1:Nat):Int)+1)=(x.size:Int):=by rw[c4 _ (by omega) (by omega)];omega
  dsimp only[Sum.elim];rw[decide_eq_false (show ¬((x.size-1:Nat):Int)≥(x.size:Int)by omega),List.nil_append,E9,w,Mt,←h]
  have e:a8 .neq x (bk x (some 0) (some (x.size:Int)))=false:=x6 (mB (by
    show _=(x.extract 0 ((x.size:Int)).toNat).data.toList;rw[Int.toNat_natCast,qc]
    rfl))
  rw[e];rfl
theorem Vs{x s:ByteArray}(hx:bz x)(h:x=mL s)(ag:s.size≤60):tL x=(s,0):=by
 unfold tL
 rw[Vq hx h]
 dsimp only
 rw[bne_self_eq_false,decide_eq_false (show ¬(x.size:Int)<0 by omega),decide_eq_false (show ¬(s.size:Int)>60 by omega)]
 rfl
noncomputable def nF(x:ByteArray)(v:bI):bI × Int:=bif(a8 .eql x (⟨#[]⟩:ByteArray)||a8 .neq (fT v) x)then(⟨0,0,⟨#[]⟩⟩,4)else(v,0)
theorem tM(x:ByteArray)(v:bI):(bif a8 .eql x (⟨#[]⟩:ByteArray)then(bif(a8 .eql x (⟨#[]⟩:ByteArray)||a8 .neq (⟨#[]⟩:ByteArray) x)then((⟨0,0,⟨#[]⟩⟩:bI),(4:Int))else(v,0))else(bif(a8 .eql x (⟨#[]⟩:ByteArray)||a8 .neq (fT v) x)then((⟨0,0,⟨#[]⟩⟩:bI),(4:Int))else(v,0)))=nF x v:=by
 unfold nF
 cases a8 .eql x (⟨#[]⟩:ByteArray)<;>rfl
theorem Vt(x:ByteArray):om x=nF x (qA x):=by
 rw[←tM]
 unfold om
 dsimp only
 rw[EN]
noncomputable def ya(x:ByteArray):bI:=
 bif(a8 .eql x (⟨#[110,111,110,101]⟩:ByteArray))then⟨0,0,⟨#[]⟩⟩
 else bif((a8 .eql x (⟨#[116,114,117,101]⟩:ByteArray))||(a8 .eql x (⟨#[102,97,108,115,101]⟩:ByteArray)))then(bif(a8 .eql x (⟨#[116,114,117,101]⟩:ByteArray))then⟨1,1,⟨#[]⟩⟩else⟨1,0,⟨#[]⟩⟩)
 else bif((a8 .neq x (⟨#[]⟩:ByteArray))&&((aC x (0:Int))==35))then⟨3,(cK (bk x (some (1:Int)) none)).1,⟨#[]⟩⟩
 else bif((a8 .neq x (⟨#[]⟩:ByteArray))&&((aC x (0:Int))==34))then⟨4,0,(qu x).1⟩
 else⟨2,(cK x).1,⟨#[]⟩⟩
theorem Nb(x:ByteArray):e7 x=nF x (ya x):=by
 unfold e7 ya
 dsimp only
 cases (a8 .eql x (⟨#[110,111,110,101]⟩:ByteArray))
 ·simp only[cond_false]
  cases ((a8 .eql x (⟨#[116,114,117,101]⟩:ByteArray))||(a8 .eql x (⟨#[102,97,108,115,101]⟩:ByteArray)))
  ·simp only[cond_false]
   cases ((a8 .neq x (⟨#[]⟩:ByteArray))&&((aC x (0:Int))==35))
   ·simp only[cond_false]
    cases ((a8 .neq x (⟨#[]⟩:ByteArray))&&((aC x (0:Int))==34))
    ·exact tM x _
    ·exact tM x _
   ·exact tM x _
  ·simp only[cond_true]
   cases (a8 .eql x (⟨#[116,114,117,101]⟩:ByteArray))
   ·exact tM x _
   ·exact tM x _
 ·exact tM x _
theorem Bt{x:ByteArray}{v:bI}(h:fT v≠x):nF x v=(⟨0,0,⟨#[]⟩⟩,4):=by
 unfold nF
 have:a8 .neq (fT v) x=true:=by
  show(!bq (fT v) x)=true;rw[Bool.not_eq_true',tB];exact h
 rw[this,Bool.or_true]
 rfl
theorem Vu{v w:bI}:nF ⟨#[]⟩ v=nF ⟨#[]⟩ w:=by
 have e:a8 .eql (⟨#[]⟩:ByteArray) (⟨#[]⟩:ByteArray)=true:=xu _
 unfold nF
 rw[e]
 simp only[Bool.true_or,cond_true]
theorem Nc{s x:ByteArray}(h:fT ⟨4,0,s⟩=x)(aU:x≠⟨#[]⟩):x=mL s∧s.size≤60:=by
 by_cases hc:eU ⟨4,0,s⟩=0
 ·have av:kl ⟨4,0,s⟩=0:=by rw[←qe];exact hc
  refine⟨?_,xE av⟩
  rw[←h,←EL];unfold fT;rw[hc];kernel_rfl
 ·exfalso
  apply aU;rw[←h];unfold fT;rw[show(eU ⟨4,0,s⟩ != 0)=true by simpa using hc]
  rfl
theorem Nd:cK (⟨#[48]⟩:ByteArray)=(0,true):=by kernel_rfl
theorem Vv:fT ⟨2,0,⟨#[]⟩⟩=⟨#[48]⟩:=by kernel_rfl
theorem Vw:fT ⟨0,0,⟨#[]⟩⟩=⟨#[110,111,110,101]⟩:=by kernel_rfl
theorem Nf{x:ByteArray}(h:(cK x).2=false):(cK x).1=0:=by
 rw[M3]at h⊢
 unfold x5 at h⊢
 cases aa:(((ByteArray.size x:Int)==0)||(decide ((x.size:Int)>14)))with
 |true=>rfl
 |false=>
  rw[aa]at h;simp only[cond_false]at h⊢;revert h;generalize (bif(aC x 0==45)then kv x (x.size-1) 1 0 else kv x x.size 0 0)=o
  cases o with
  |none=>intro _;rfl
  |some a=>
   unfold x4;dsimp only;generalize (bif(aC x 0==45)then IntKind.wrap .i64 (0-a)else a)=v
   cases ((hQ v != v)||a8 .neq (fN v) x)
   ·intro h;cases h
   ·intro _;rfl
theorem Vx{x:ByteArray}(hx:bz x):nF x (qA x)=nF x (ya x):=by
 by_cases aU:x=⟨#[]⟩
 ·subst aU
  exact Vu
 by_cases hn:x=⟨#[110,111,110,101]⟩
 ·subst hn
  kernel_rfl
 have vr:a8 .eql x (⟨#[110,111,110,101]⟩:ByteArray)=false:=by
  show bq x _=false;rw[tB];exact hn
 unfold qA ya
 rw[vr]
 dsimp only
 simp only[cond_false]
 cases ((a8 .eql x (⟨#[116,114,117,101]⟩:ByteArray))||(a8 .eql x (⟨#[102,97,108,115,101]⟩:ByteArray)))with
 |true=>
  cases (a8 .eql x (⟨#[116,114,117,101]⟩:ByteArray))<;>rfl
 |false=>
  simp only[cond_false]
  cases ((a8 .neq x (⟨#[]⟩:ByteArray))&&((aC x (0:Int))==35))with
  |true=>
   simp only[cond_true];rw[Bq]
  |false=>
   simp only[cond_false]
   cases ((a8 .neq x (⟨#[]⟩:ByteArray))&&((aC x (0:Int))==34))with
   |true=>
    simp only[cond_true]
    by_cases aa:fT ⟨4,0,(qu x).1⟩=x
    ·obtain⟨e,ag⟩:=Nc aa aU
     rw[Vs hx e ag]
    ·by_cases ad:fT ⟨4,0,(tL x).1⟩=x
     ·obtain⟨e,ag⟩:=Nc ad aU
      rw[Vl hx e ag]
     ·rw[Bt aa,Bt ad]
   |false=>
    simp only[cond_false];rw[Bq]
    cases an:(cK x).2 with
    |true=>rfl
    |false=>
     rw[Nf an];simp only[cond_false]
     rw[Bt (x:=x) (v:=⟨0,0,⟨#[]⟩⟩) (by rw[Vw];exact fun e=>hn e.symm),Bt (x:=x) (v:=⟨2,0,⟨#[]⟩⟩) (by
      rw[Vv];intro e;rw[←e,Nd]at an
      cases an)]
theorem Vy{x:ByteArray}(hx:bz x):om x=e7 x:=by rw[Vt,Nb,Vx hx]
end Go.aM
namespace Go.aM
open Go Go.ed
def iJ(c:UInt8)(x:ByteArray):Prop:=∀u∈x.data.toList,u≠c
theorem Ng{f:Nat→Bool}: ∀(j n k:Nat),(∀i,i<j→f (k+i)=false)→f (k+j)=true→j<n→(List.range' k n).find? f=some (k+j):=by
 intro j
 induction j with
 |zero=>
  intro n k _ h hn;obtain⟨n,rfl⟩: ∃m,n=m+1:=⟨n-1,by omega⟩
  rw[List.range'_succ,List.find?_cons]
  rw[Nat.add_zero]at h;rw[h];rfl
 |succ j aR=>
  intro n k aI h hn;obtain⟨n,rfl⟩: ∃m,n=m+1:=⟨n-1,by omega⟩
  rw[List.range'_succ,List.find?_cons]
  have aU:=aI 0 (Nat.succ_pos _)
  rw[Nat.add_zero]at aU;rw[aU]
  have:=aR n (k+1) (fun i hi=>by have:=aI (i+1) (by omega);rwa[show k+1+i=k+(i+1)by omega]) (by rwa[show k+1+j=k+(j+1)by omega]) (by omega)
  rw[show k+(j+1)=k+1+j by omega]
  exact this
theorem Nh{x:ByteArray}{l:List UInt8}(h:x.data.toList=l){c:UInt8}{i:Nat}(hi:i<l.length)(hc:l[i]≠c):(aC x (i:Int)==(c.toNat:Int))=false:=by
 rw[jr h,List.getD_eq_getElem?_getD,List.getElem?_eq_getElem hi,beq_eq_false_iff_ne]
 exact fun e=>hc (tK.1 e)
theorem yb{c:UInt8}{x p s:ByteArray}(h:x.data.toList=p.data.toList++c::s.data.toList)(ak:iJ c p):aO c x=(p,s,true):=by
 have ag:x.size=p.size+(s.size+1):=by rw[nE h,List.length_append];rfl
 have pr:p.data.toList.length=p.size:=rfl
 have hf:(List.range' 0 x.size).find? (fun i:Nat=>aC x (i:Int)==(c.toNat:Int))=some (0+p.size):=by
  refine Ng _ _ _ (fun i hi=>?_) ?_ (by omega)
  ·rw[Nat.zero_add]
   have iK:i<(p.data.toList++c::s.data.toList).length:=by rw[List.length_append];omega
   refine Nh h iK ?_
   rw[List.getElem_append_left (by omega)]
   exact ak _ (List.getElem_mem _)
  ·rw[Nat.zero_add]
   show(aC x (p.size:Int)==(c.toNat:Int))=true;rw[jr h,←pr,Bs,beq_iff_eq];rfl
 unfold aO
 rw[hf]
 dsimp only
 rw[Nat.zero_add]
 have aA:x.extract 0 p.size=p:=mB (by
  have:=Fc h p.size
  have e:(bk x none (some (p.size:Int)))=x.extract 0 p.size:=by show x.extract 0 ((p.size:Int)).toNat=_;rw[Int.toNat_natCast]
  rw[←e,this,←pr,List.take_left])
 have aW:x.extract (p.size+1) x.size=s:=mB (by
  rw[qc,h,←pr,←List.drop_drop,List.drop_left]
  rfl)
 rw[aA,aW]
theorem Bu{c:UInt8}{x:ByteArray}(ak:iJ c x):aO c x=(x,⟨#[]⟩,false):=by
 have hf:(List.range' 0 x.size).find? (fun i:Nat=>aC x (i:Int)==(c.toNat:Int))=none:=by
  rw[List.find?_eq_none]
  intro i hi;rw[List.mem_range'_1]at hi
  have iK:i<x.data.toList.length:=by have:x.data.toList.length=x.size:=rfl;omega
  rw[Nh (l:=x.data.toList) rfl iK (ak _ (List.getElem_mem _))];decide
 unfold aO
 rw[hf]
theorem qB(a b:ByteArray):(ByteArray.append a b).data.toList=a.data.toList++b.data.toList:=by
 show(a++b).data.toList=_
 rw[ByteArray.data_append,Array.toList_append]
theorem Fh: ∀(f u:Nat),∀b∈pt f u,b≠32∧b≠46
 |0,_,b,h=>by cases h
 |f+1,u,b,h=>by
  have hd: ∀d:Nat,d<10→(UInt8.ofNat (48+d)≠32∧UInt8.ofNat (48+d)≠46):=by decide
  unfold pt at h
  cases hu:Nat.blt u 10 with
  |true=>
   rw[hu]at h;simp only[cond_true,List.mem_singleton]at h;subst h
   have:u<10:=by rw[Nat.blt_eq]at hu;exact hu
   exact hd u this
  |false=>
   rw[hu]at h;simp only[cond_false,List.mem_append,List.mem_singleton]at h
   rcases h with h|h
   ·exact Fh f _ b h
   ·subst h
    exact hd _ (Nat.mod_lt _ (by decide))
theorem Bv(n:Int):iJ 32 (fe n)∧iJ 46 (fe n):=by
 have: ∀b∈(fN n).data.toList,b≠32∧b≠46:=by
  unfold fN
  cases decide (n<0)
  ·intro b h
   exact Fh _ _ b (by simpa using h)
  ·intro b h
   have h:b=45∨b∈pt 20 n.natAbs:=by simpa using h
   rcases h with h|h
   ·subst h;decide
   ·exact Fh _ _ b h
 exact⟨fun b h=>(this b h).1,fun b h=>(this b h).2⟩
theorem Vz{P:Int→Int→Bool}{x:ByteArray}: ∀(n k:Nat),jH P x k n=true→∀i,k≤i→i<k+n→P (aC x (i:Int)) (i:Int)=false:=by
 intro n
 induction n with
 |zero=>intro k _ i aa ad;omega
 |succ n aR=>
  intro k h i aa ad;unfold jH at h
  cases ak:P (aC x (k:Int)) (k:Int)with
  |true=>
   rw[ak]at h;simp at h
  |false=>
   rw[ak]at h
   rcases Nat.eq_or_lt_of_le aa with e|e
   ·subst e;exact ak
   ·exact aR (k+1) (by simpa using h) i e (by omega)
theorem Ni{x:ByteArray}{c:UInt8}{P:Int→Int→Bool}(h:jH P x 0 x.size=true)(hc: ∀i:Int,P (c.toNat:Int) i=true):iJ c x:=by
 intro u hu e
 subst e
 obtain⟨i,hi,e⟩:=List.getElem_of_mem hu
 have:=Vz _ _ h i (Nat.zero_le _) (by have:x.data.toList.length=x.size:=rfl;omega)
 rw[jr (l:=x.data.toList) rfl,List.getD_eq_getElem?_getD,List.getElem?_eq_getElem hi]at this
 have aW:(((some (x.data.toList[i])).getD 0).toNat:Int)=(u.toNat:Int):=by rw[e];rfl
 rw[aW,hc]at this
 cases this
theorem Fi{x:ByteArray}(h:valid x=true):iJ 32 x∧iJ 46 x:=by
 unfold valid at h
 have h:jH mJ x 0 x.size=true:=by
  cases hc:((decide ((ByteArray.size x:Int)<1))||(decide ((ByteArray.size x:Int)>24)))with
  |true=>rw[hc]at h;cases h
  |false=>rw[hc]at h;exact h
 have aA: ∀i:Int,mJ (((32:UInt8).toNat:Int)) i=true:=by
  intro i;show((!(decide ((32:Int)≥97)&&decide ((32:Int)≤122)))&&((i==0)||((((32:Int) != 95)&&((32:Int) != 45))&&((decide ((32:Int)<48))||(decide ((32:Int)>57))))))=true
  cases (i==0)<;>rfl
 have aW: ∀i:Int,mJ (((46:UInt8).toNat:Int)) i=true:=by
  intro i;show((!(decide ((46:Int)≥97)&&decide ((46:Int)≤122)))&&((i==0)||((((46:Int) != 95)&&((46:Int) != 45))&&((decide ((46:Int)<48))||(decide ((46:Int)>57))))))=true
  cases (i==0)<;>rfl
 exact⟨Ni h aA,Ni h aW⟩
end Go.aM
namespace Go.aM
open Go Go.ed
noncomputable def iL(i:Nat):ByteArray:=List.getD qp i (dJ .str)
def qC:List ByteArray:=([⟨#[116,105,99,107]⟩,⟨#[115,101,110,115,101]⟩,⟨#[101,118,101,110,116]⟩,⟨#[110,111,105,115,101]⟩,⟨#[113,117,105,101,116]⟩,⟨#[111,102,102]⟩,⟨#[111,110]⟩,⟨#[99,117,116]⟩,⟨#[106,111,105,110]⟩,⟨#[99,114,97,115,104]⟩,⟨#[99,108,111,99,107]⟩,⟨#[97,115,107]⟩,⟨#[101,110,101,114,103,121]⟩,⟨#[109,111,118,101]⟩,⟨#[108,111,115,101]⟩,⟨#[116,119,105,99,101]⟩]:List ByteArray)
theorem Bw: ∀i:Nat,i<16→hD qC i=iL i:=by decide+kernel
theorem Nj: ∀i:Nat,i<16→∀j:Nat,j<16→iL i=iL j→i=j:=by decide+kernel
def vC:aK:=(⟨0,0,0,⟨0,⟨#[]⟩,⟨#[]⟩⟩,⟨0,0,⟨#[]⟩⟩,⟨0,⟨#[]⟩,⟨#[]⟩⟩,⟨⟨#[]⟩,⟨0,0,⟨0,⟨#[]⟩,⟨#[]⟩⟩,⟨#[]⟩,⟨0,0,⟨#[]⟩⟩,⟨#[]⟩⟩⟩⟩:aK)
noncomputable def pv(x:ByteArray)(k:Int)(b:ByteArray):Bool:=((mP k b).2&&((m13 (mP k b).1).2==0))&&a8 .eql (m13 (mP k b).1).1 x
theorem VA(x:ByteArray):m16 x=qv 32 x fun a b _=>Sum.elim (fun r=>r) (fun _=>(vC,4)) (bL (fun(i:Nat) (_:Unit)=>(bif a8 .neq (hD qC (Int.toNat (i:Int))) a then .bn ()else bif pv x (IntKind.wrap .i64 ((i:Int)+(1:Int))) b then .ret ((mP (IntKind.wrap .i64 ((i:Int)+(1:Int))) b).1,0)else .bn ():Step (aK × Int) Unit)) 0 16 ()):=by kernel_rfl
theorem Nk{x:ByteArray}(hx:bz x):m16 x=match(List.range' 0 16).find? (fun i:Nat=>!a8 .neq (hD qC i) (aO 32 x).1&&pv x (IntKind.wrap .i64 ((i:Int)+(1:Int))) (aO 32 x).2.1)with
 |some i=>((mP (IntKind.wrap .i64 ((i:Int)+(1:Int))) (aO 32 x).2.1).1,0)
 |none=>(vC,4):=by
 rw[VA,vA hx]
 rw[M5 (p:=fun i:Nat=>!a8 .neq (hD qC i) (aO 32 x).1&&pv x (IntKind.wrap .i64 ((i:Int)+(1:Int))) (aO 32 x).2.1) (f:=fun i:Nat=>((mP (IntKind.wrap .i64 ((i:Int)+(1:Int))) (aO 32 x).2.1).1,0)) (fun i c=>by
  rw[Int.toNat_natCast]
  cases a8 .neq (hD qC i) (aO 32 x).1<;>rfl)]
 cases (List.range' 0 16).find? (fun i:Nat=>!a8 .neq (hD qC i) (aO 32 x).1&&pv x (IntKind.wrap .i64 ((i:Int)+(1:Int))) (aO 32 x).2.1)<;>rfl
theorem Bx{a b:ByteArray}(h:a≠b):a8 .neq a b=true:=by
 show(!bq a b)=true
 rw[Bool.not_eq_true',tB]
 exact h
theorem VB{x:ByteArray}(hx:bz x)(h: ∀i:Nat,i<16→iL i≠(aO 32 x).1):m16 x=(vC,4):=by
 rw[Nk hx]
 have:(List.range' 0 16).find? (fun i:Nat=>!a8 .neq (hD qC i) (aO 32 x).1&&pv x (IntKind.wrap .i64 ((i:Int)+(1:Int))) (aO 32 x).2.1)=none:=by
  rw[List.find?_eq_none]
  intro i hi;rw[List.mem_range'_1]at hi;rw[Bw i (by omega),Bx (h i (by omega))]
  simp
 rw[this]
theorem By{k:Nat}(h:k<16):IntKind.wrap .i64 ((k:Int)+(1:Int))=((k+1:Nat):Int):=by rw[c4 _ (by omega) (by omega)];omega
theorem VC{x:ByteArray}(hx:bz x){k:Nat}(aj:k<16)(h:iL k=(aO 32 x).1):m16 x=bif pv x ((k+1:Nat):Int) (aO 32 x).2.1 then((mP ((k+1:Nat):Int) (aO 32 x).2.1).1,0)else(vC,4):=by
 rw[Nk hx]
 have cb: ∀i:Nat,i<16→i≠k→iL i≠(aO 32 x).1:=fun i hi rX e=>rX (Nj i hi k aj (e.trans h.symm))
 cases aI:pv x ((k+1:Nat):Int) (aO 32 x).2.1 with
 |true=>
  have:(List.range' 0 16).find? (fun i:Nat=>!a8 .neq (hD qC i) (aO 32 x).1&&pv x (IntKind.wrap .i64 ((i:Int)+(1:Int))) (aO 32 x).2.1)=some (0+k):=by
   refine Ng _ _ _ (fun i hi=>?_) ?_ aj
   ·rw[Nat.zero_add,Bw i (by omega),Bx (cb i (by omega) (by omega))]
    rfl
   ·rw[Nat.zero_add,Bw k aj,x6 h,By aj,aI]
    rfl
  rw[this];dsimp only;rw[Nat.zero_add,By aj];rfl
 |false=>
  have:(List.range' 0 16).find? (fun i:Nat=>!a8 .neq (hD qC i) (aO 32 x).1&&pv x (IntKind.wrap .i64 ((i:Int)+(1:Int))) (aO 32 x).2.1)=none:=by
   rw[List.find?_eq_none]
   intro i hi;rw[List.mem_range'_1]at hi;rw[Bw i (by omega)]
   by_cases rX:i=k
   ·subst rX
    rw[By aj,aI];simp
   ·rw[Bx (cb i (by omega) rX)]
    simp
  rw[this];rfl
noncomputable def Fj(bj:Int)(r:ByteArray):aK:=
 let aT:=cv r (32:Int)
 let v10:=cv aT.1 (46:Int)
 let bW:=cv v10.2 (46:Int)
 let cG:=hR aT.1
 let cN:=hR aT.2
 let e1:=hR v10.1
 let bV:Int→Int→Int→ByteArray→ByteArray→Int→Int→ByteArray→Int→ByteArray→ByteArray→ByteArray→Int→Int→Int→ByteArray→ByteArray→ByteArray→Int→Int→ByteArray→ByteArray→aK:=fun gD v28 hG v30 v31 nD rY fy vD kZ v37 Fk qz v40 Fl tN Fm tO Fo v46 Fp Fq=>
  ⟨bj,gD,v28,⟨hG,v30,v31⟩,⟨nD,rY,fy⟩,⟨vD,kZ,v37⟩,⟨Fk,⟨qz,v40,⟨Fl,tN,Fm⟩,tO,⟨Fo,v46,Fp⟩,Fq⟩⟩⟩
 let ay:Bool→aK:=fun c5=>
  bif c5 then
   let gD:=om aT.2
   bV (0:Int) (0:Int) e1.1 bW.1 bW.2 gD.1.kind gD.1.n gD.1.s (0:Int) (⟨#[]⟩:ByteArray) (⟨#[]⟩:ByteArray) (⟨#[]⟩:ByteArray) (0:Int) (0:Int) (0:Int) (⟨#[]⟩:ByteArray) (⟨#[]⟩:ByteArray) (⟨#[]⟩:ByteArray) (0:Int) (0:Int) (⟨#[]⟩:ByteArray) (⟨#[]⟩:ByteArray)
  else
   bif(bj==3)then
    bV (0:Int) (0:Int) (0:Int) (⟨#[]⟩:ByteArray) (⟨#[]⟩:ByteArray) (0:Int) (0:Int) (⟨#[]⟩:ByteArray) e1.1 bW.1 bW.2 (⟨#[]⟩:ByteArray) (0:Int) (0:Int) (0:Int) (⟨#[]⟩:ByteArray) (⟨#[]⟩:ByteArray) (⟨#[]⟩:ByteArray) (0:Int) (0:Int) (⟨#[]⟩:ByteArray) (⟨#[]⟩:ByteArray)
   else
    let ay:Bool→aK:=fun v28=>
     bif v28 then
      bV cG.1 cN.1 (0:Int) (⟨#[]⟩:ByteArray) (⟨#[]⟩:ByteArray) (0:Int) (0:Int) (⟨#[]⟩:ByteArray) (0:Int) (⟨#[]⟩:ByteArray) (⟨#[]⟩:ByteArray) (⟨#[]⟩:ByteArray) (0:Int) (0:Int) (0:Int) (⟨#[]⟩:ByteArray) (⟨#[]⟩:ByteArray) (⟨#[]⟩:ByteArray) (0:Int) (0:Int) (⟨#[]⟩:ByteArray) (⟨#[]⟩:ByteArray)
     else
      bif(bj==12)then
       let v31:=oj aT.2
       let fy:=nB v31.1
       bV (0:Int) (0:Int) (0:Int) (⟨#[]⟩:ByteArray) (⟨#[]⟩:ByteArray) (0:Int) (0:Int) (⟨#[]⟩:ByteArray) (0:Int) (⟨#[]⟩:ByteArray) (⟨#[]⟩:ByteArray) aT.1 fy.1.kind fy.1.cY fy.1.key.dev fy.1.key.bp fy.1.key.attr fy.1.name fy.1.value.kind fy.1.value.n fy.1.value.s fy.1.text
      else
       bif(bj==14)then
        bV (0:Int) (0:Int) (0:Int) (⟨#[]⟩:ByteArray) (⟨#[]⟩:ByteArray) (0:Int) (0:Int) (⟨#[]⟩:ByteArray) (0:Int) (⟨#[]⟩:ByteArray) (⟨#[]⟩:ByteArray) (⟨#[]⟩:ByteArray) (0:Int) (0:Int) (0:Int) (⟨#[]⟩:ByteArray) (⟨#[]⟩:ByteArray) (⟨#[]⟩:ByteArray) (0:Int) (0:Int) (⟨#[]⟩:ByteArray) (⟨#[]⟩:ByteArray)
       else
        bV cG.1 (0:Int) (0:Int) (⟨#[]⟩:ByteArray) (⟨#[]⟩:ByteArray) (0:Int) (0:Int) (⟨#[]⟩:ByteArray) (0:Int) (⟨#[]⟩:ByteArray) (⟨#[]⟩:ByteArray) (⟨#[]⟩:ByteArray) (0:Int) (0:Int) (0:Int) (⟨#[]⟩:ByteArray) (⟨#[]⟩:ByteArray) (⟨#[]⟩:ByteArray) (0:Int) (0:Int) (⟨#[]⟩:ByteArray) (⟨#[]⟩:ByteArray)
    let v28:=bj==8
    bif v28 then
     ay v28
    else
     ay (bj==9)
 let c5:=bj==2
 bif c5 then
  ay c5
 else
  ay (bj==13)
noncomputable def Bz(k:Int)(r:ByteArray):aK:=
 bif((k==2)||(k==13))then(⟨k,0,0,⟨(hR (cv (cv r 32).1 46).1).1,(cv (cv (cv r 32).1 46).2 46).1,(cv (cv (cv r 32).1 46).2 46).2⟩,⟨(om (cv r 32).2).1.kind,(om (cv r 32).2).1.n,(om (cv r 32).2).1.s⟩,⟨0,⟨#[]⟩,⟨#[]⟩⟩,⟨⟨#[]⟩,⟨0,0,⟨0,⟨#[]⟩,⟨#[]⟩⟩,⟨#[]⟩,⟨0,0,⟨#[]⟩⟩,⟨#[]⟩⟩⟩⟩:aK)
 else bif(k==3)then(⟨k,0,0,⟨0,⟨#[]⟩,⟨#[]⟩⟩,⟨0,0,⟨#[]⟩⟩,⟨(hR (cv (cv r 32).1 46).1).1,(cv (cv (cv r 32).1 46).2 46).1,(cv (cv (cv r 32).1 46).2 46).2⟩,⟨⟨#[]⟩,⟨0,0,⟨0,⟨#[]⟩,⟨#[]⟩⟩,⟨#[]⟩,⟨0,0,⟨#[]⟩⟩,⟨#[]⟩⟩⟩⟩:aK)
 else bif((k==8)||(k==9))then(⟨k,(hR (cv r 32).1).1,(hR (cv r 32).2).1,⟨0,⟨#[]⟩,⟨#[]⟩⟩,⟨0,0,⟨#[]⟩⟩,⟨0,⟨#[]⟩,⟨#[]⟩⟩,⟨⟨#[]⟩,⟨0,0,⟨0,⟨#[]⟩,⟨#[]⟩⟩,⟨#[]⟩,⟨0,0,⟨#[]⟩⟩,⟨#[]⟩⟩⟩⟩:aK)
 else bif(k==12)then(⟨k,0,0,⟨0,⟨#[]⟩,⟨#[]⟩⟩,⟨0,0,⟨#[]⟩⟩,⟨0,⟨#[]⟩,⟨#[]⟩⟩,⟨(cv r 32).1,(nB (oj (cv r 32).2).1).1⟩⟩:aK)
 else bif(k==14)then(⟨k,0,0,⟨0,⟨#[]⟩,⟨#[]⟩⟩,⟨0,0,⟨#[]⟩⟩,⟨0,⟨#[]⟩,⟨#[]⟩⟩,⟨⟨#[]⟩,⟨0,0,⟨0,⟨#[]⟩,⟨#[]⟩⟩,⟨#[]⟩,⟨0,0,⟨#[]⟩⟩,⟨#[]⟩⟩⟩⟩:aK)
 else(⟨k,(hR (cv r 32).1).1,0,⟨0,⟨#[]⟩,⟨#[]⟩⟩,⟨0,0,⟨#[]⟩⟩,⟨0,⟨#[]⟩,⟨#[]⟩⟩,⟨⟨#[]⟩,⟨0,0,⟨0,⟨#[]⟩,⟨#[]⟩⟩,⟨#[]⟩,⟨0,0,⟨#[]⟩⟩,⟨#[]⟩⟩⟩⟩:aK)
noncomputable def hj(k:Int)(r:ByteArray):aK:=
 bif((k==2)||(k==13))then(⟨k,0,0,⟨(cK (aO 46 (aO 32 r).1).1).1,(aO 46 (aO 46 (aO 32 r).1).2.1).1,(aO 46 (aO 46 (aO 32 r).1).2.1).2.1⟩,⟨(e7 (aO 32 r).2.1).1.kind,(e7 (aO 32 r).2.1).1.n,(e7 (aO 32 r).2.1).1.s⟩,⟨0,⟨#[]⟩,⟨#[]⟩⟩,⟨⟨#[]⟩,⟨0,0,⟨0,⟨#[]⟩,⟨#[]⟩⟩,⟨#[]⟩,⟨0,0,⟨#[]⟩⟩,⟨#[]⟩⟩⟩⟩:aK)
 else bif(k==3)then(⟨k,0,0,⟨0,⟨#[]⟩,⟨#[]⟩⟩,⟨0,0,⟨#[]⟩⟩,⟨(cK (aO 46 (aO 32 r).1).1).1,(aO 46 (aO 46 (aO 32 r).1).2.1).1,(aO 46 (aO 46 (aO 32 r).1).2.1).2.1⟩,⟨⟨#[]⟩,⟨0,0,⟨0,⟨#[]⟩,⟨#[]⟩⟩,⟨#[]⟩,⟨0,0,⟨#[]⟩⟩,⟨#[]⟩⟩⟩⟩:aK)
 else bif((k==8)||(k==9))then(⟨k,(cK (aO 32 r).1).1,(cK (aO 32 r).2.1).1,⟨0,⟨#[]⟩,⟨#[]⟩⟩,⟨0,0,⟨#[]⟩⟩,⟨0,⟨#[]⟩,⟨#[]⟩⟩,⟨⟨#[]⟩,⟨0,0,⟨0,⟨#[]⟩,⟨#[]⟩⟩,⟨#[]⟩,⟨0,0,⟨#[]⟩⟩,⟨#[]⟩⟩⟩⟩:aK)
 else bif(k==12)then(⟨k,0,0,⟨0,⟨#[]⟩,⟨#[]⟩⟩,⟨0,0,⟨#[]⟩⟩,⟨0,⟨#[]⟩,⟨#[]⟩⟩,⟨(aO 32 r).1,(hC (gr (aO 32 r).2.1).1).1⟩⟩:aK)
 else bif(k==14)then(⟨k,0,0,⟨0,⟨#[]⟩,⟨#[]⟩⟩,⟨0,0,⟨#[]⟩⟩,⟨0,⟨#[]⟩,⟨#[]⟩⟩,⟨⟨#[]⟩,⟨0,0,⟨0,⟨#[]⟩,⟨#[]⟩⟩,⟨#[]⟩,⟨0,0,⟨#[]⟩⟩,⟨#[]⟩⟩⟩⟩:aK)
 else(⟨k,(cK (aO 32 r).1).1,0,⟨0,⟨#[]⟩,⟨#[]⟩⟩,⟨0,0,⟨#[]⟩⟩,⟨0,⟨#[]⟩,⟨#[]⟩⟩,⟨⟨#[]⟩,⟨0,0,⟨0,⟨#[]⟩,⟨#[]⟩⟩,⟨#[]⟩,⟨0,0,⟨#[]⟩⟩,⟨#[]⟩⟩⟩⟩:aK)
theorem Nl(k:Int)(r:ByteArray):Fj k r=Bz k r:=by
 unfold Fj Bz
 dsimp only
 generalize cv=f1
 generalize hR=f2
 generalize om=f3
 generalize oj=f4
 generalize nB=f5
 cases (k==2)
 ·cases (k==13)
  ·cases (k==3)
   ·cases (k==8)
    ·cases (k==9)
     ·cases (k==12)
      ·cases (k==14)<;>rfl
      ·rfl
     ·rfl
    ·rfl
   ·rfl
  ·rfl
 ·rfl
theorem Nn{k:Int}{r:ByteArray}(af:bz r):Bz k r=hj k r:=by
 have aa:cv r 32=((aO 32 r).1,(aO 32 r).2.1):=qy af 32
 have s1:=kY (c:=32) af
 have ad:cv (aO 32 r).1 46=((aO 46 (aO 32 r).1).1,(aO 46 (aO 32 r).1).2.1):=qy s1.1 46
 have s2:=kY (c:=46) s1.1
 have aq:cv (aO 46 (aO 32 r).1).2.1 46=((aO 46 (aO 46 (aO 32 r).1).2.1).1,(aO 46 (aO 46 (aO 32 r).1).2.1).2.1):=qy s2.2 46
 unfold Bz hj
 rw[aa]
 dsimp only
 rw[ad]
 dsimp only
 rw[aq]
 simp only[Bq,Vy s1.2,M8]
 rw[Ez (tF s1.2),vj (tF s1.2)]
theorem No(x:ByteArray):tP x=Sum.elim (fun r=>r) (fun bj=>Fj bj (cv x 32).2) (bL (fun(i:Nat) (c:Int)=>(bif a8 .eql (iL (Int.toNat (i:Int))) (cv x 32).1 then .bn (IntKind.wrap .i64 ((i:Int)+(1:Int)))else .bn c:Step aK Int)) 0 16 0):=by kernel_rfl
theorem Np{R:Type}{a:ByteArray}{b:Nat→Int→Step R Int}(ae: ∀i c,b i c=bif a8 .eql (iL (Int.toNat (i:Int))) a then .bn (IntKind.wrap .i64 ((i:Int)+(1:Int)))else .bn c):
 ∀(n k:Nat) (c:Int),k+n≤16→∃r,bL b k n c= .inr r∧((r=c∧∀i,k≤i→i<k+n→iL i≠a)∨∃i,k≤i∧i<k+n∧iL i=a∧r=((i+1:Nat):Int)):=by
 intro n
 induction n with
 |zero=>intro k c _;exact⟨c,rfl,.inl ⟨rfl,fun i aa ad=>by omega⟩⟩
 |succ n aR=>
  intro k c aj;unfold bL;rw[ae,Int.toNat_natCast]
  cases he:a8 .eql (iL k) a with
  |true=>
   have he:bq (iL k) a=true:=he
   rw[xU]at he;obtain⟨r,aa,ad⟩:=aR (k+1) (IntKind.wrap .i64 ((k:Int)+(1:Int))) (by omega)
   refine⟨r,aa,.inr ?_⟩
   rcases ad with⟨ad,_⟩|⟨i,g1,g2,g3,g4⟩
   ·exact⟨k,Nat.le_refl _,by omega,he,by rw[ad,By (by omega)]⟩
   ·exact⟨i,by omega,by omega,g3,g4⟩
  |false=>
   have he:bq (iL k) a=false:=he
   rw[tB]at he;obtain⟨r,aa,ad⟩:=aR (k+1) c (by omega)
   refine⟨r,aa,?_⟩
   rcases ad with⟨ad,aq⟩|⟨i,g1,g2,g3,g4⟩
   ·refine .inl ⟨ad,fun i i1 i2=>?_⟩
    rcases Nat.eq_or_lt_of_le i1 with e|e
    ·subst e;exact he
    ·exact aq i e (by omega)
   ·exact .inr ⟨i,by omega,by omega,g3,g4⟩
theorem Nq{x:ByteArray}(hx:bz x){k:Nat}(aj:k<16)(h:iL k=(aO 32 x).1):tP x=hj ((k+1:Nat):Int) (aO 32 x).2.1:=by
 have e:cv x 32=((aO 32 x).1,(aO 32 x).2.1):=qy hx 32
 rw[No,e]
 obtain⟨r,aa,ad⟩:=Np (R:=aK) (a:=(aO 32 x).1) (b:=fun(i:Nat) (c:Int)=>(bif a8 .eql (iL (Int.toNat (i:Int))) (aO 32 x).1 then .bn (IntKind.wrap .i64 ((i:Int)+(1:Int)))else .bn c:Step aK Int)) (fun _ _=>rfl) 16 0 0 (by decide)
 dsimp only
 rw[aa]
 dsimp only[Sum.elim]
 rw[Nl,Nn (kY hx).2]
 rcases ad with⟨_,aq⟩|⟨i,_,g2,g3,g4⟩
 ·exact absurd h (aq k (Nat.zero_le _) (by omega))
 ·rw[g4,Nj i (by omega) k aj (g3.trans h.symm)]
theorem Nr{x:ByteArray}(hx:bz x)(h: ∀i:Nat,i<16→iL i≠(aO 32 x).1):tP x=hj 0 (aO 32 x).2.1:=by
 have e:cv x 32=((aO 32 x).1,(aO 32 x).2.1):=qy hx 32
 rw[No,e]
 obtain⟨r,aa,ad⟩:=Np (R:=aK) (a:=(aO 32 x).1) (b:=fun(i:Nat) (c:Int)=>(bif a8 .eql (iL (Int.toNat (i:Int))) (aO 32 x).1 then .bn (IntKind.wrap .i64 ((i:Int)+(1:Int)))else .bn c:Step aK Int)) (fun _ _=>rfl) 16 0 0 (by decide)
 dsimp only
 rw[aa]
 dsimp only[Sum.elim]
 rw[Nl,Nn (kY hx).2]
 rcases ad with⟨ad,_⟩|⟨i,_,g2,g3,_⟩
 ·rw[ad]
 ·exact absurd g3 (h i (by omega))
end Go.aM
namespace Go.aM
open Go Go.ed
theorem BA{k:Int}{r:ByteArray}(aj:di k)(af:bz r):hM (hj k r):=by
 have e:bz (⟨#[]⟩:ByteArray):=Nat.zero_le _
 have l2:ly ⟨0,0,⟨0,⟨#[]⟩,⟨#[]⟩⟩,⟨#[]⟩,⟨0,0,⟨#[]⟩⟩,⟨#[]⟩⟩:=⟨bN,bN,bN,e,e,e,⟨bN,bN,e⟩,e⟩
 have s1:=kY (c:=32) af
 have s2:=kY (c:=46) s1.1
 have hh:=kY (c:=46) s2.2
 have kk:=MS (aO 32 r).2.1
 have vz:=mO (aO 32 r).1
 have qw:=mO (aO 32 r).2.1
 have eL:=mO (aO 46 (aO 32 r).1).1
 have q:ly (hC (gr (aO 32 r).2.1).1).1:=by
  rw[vj (tF s1.2)];exact MW _
 unfold hj
 generalize hC (gr (aO 32 r).2.1).1=Q at q⊢
 generalize e7 (aO 32 r).2.1=V at kk⊢
 generalize cK (aO 32 r).1=U8 at vz⊢
 generalize cK (aO 32 r).2.1=U9 at qw⊢
 generalize cK (aO 46 (aO 32 r).1).1=fK at eL⊢
 generalize aO 46 (aO 46 (aO 32 r).1).2.1=C at hh⊢
 cases ((k==2)||(k==13))
 ·cases (k==3)
  ·cases ((k==8)||(k==9))
   ·cases (k==12)
    ·cases (k==14)
     ·exact⟨aj,vz,bN,bN,e,e,⟨bN,bN,e⟩,bN,e,e,e,l2⟩
     ·exact⟨aj,bN,bN,bN,e,e,⟨bN,bN,e⟩,bN,e,e,e,l2⟩
    ·exact⟨aj,bN,bN,bN,e,e,⟨bN,bN,e⟩,bN,e,e,s1.1,q⟩
   ·exact⟨aj,vz,qw,bN,e,e,⟨bN,bN,e⟩,bN,e,e,e,l2⟩
  ·exact⟨aj,bN,bN,bN,e,e,⟨bN,bN,e⟩,eL,hh.1,hh.2,e,l2⟩
 ·exact⟨aj,bN,bN,eL,hh.1,hh.2,⟨kk.k,kk.n,kk.s⟩,bN,e,e,e,l2⟩
def nG(a:aK)(x:ByteArray):Prop:=(iI a).2=0∧(iI a).1=x
theorem VD{x:ByteArray}{bD a2:aK}{o:Bool}(aa:hM bD)(ad:hM a2)(i:nG a2 x→bD=a2∧o=true)(j:nG bD x→bD=a2):
 (bif((o&&((m13 bD).2==0))&&a8 .eql (m13 bD).1 x)then(bD,(0:Int))else(vC,4))=(bif((m14 a2).2 != 0)||a8 .neq (m14 a2).1 x then(vC,4)else(a2,0)):=by
 rw[A9 aa,Ba ad]
 by_cases cX:nG a2 x
 ·obtain⟨e,an⟩:=i cX
  subst e
  have aA:a8 .eql (iI bD).1 x=true:=by
   show bq _ _=true;rw[cX.2,xu]
  rw[an,cX.1,aA,x6 cX.2];rfl
 ·have aW:((iI a2).2 != 0||a8 .neq (iI a2).1 x)=true:=by
   by_cases aU:(iI a2).2=0
   ·rw[Bx (fun e=>cX ⟨aU,e⟩),Bool.or_true]
   ·rw[show((iI a2).2 != 0)=true by simpa using aU,Bool.true_or]
  have aA:((o&&((iI bD).2==0))&&a8 .eql (iI bD).1 x)=false:=by
   cases hc:((o&&((iI bD).2==0))&&a8 .eql (iI bD).1 x)with
   |false=>rfl
   |true=>
    exfalso;rw[Bool.and_eq_true,Bool.and_eq_true]at hc;obtain⟨⟨_,aw⟩,ey⟩:=hc
    have ey:bq (iI bD).1 x=true:=ey
    rw[xU]at ey
    have ak:nG bD x:=⟨by simpa using aw,ey⟩
    exact cX (j ak ▸ ak)
  rw[aA,aW];rfl
theorem yc{a:aK}{x:ByteArray}(h:nG a x):(mM a).2=0∧(mM a).1=x:=by
 obtain⟨aa,ad⟩:=h
 have e:iI a=mM a:=by
  revert aa;unfold iI
  cases ((decide (a.kind<1))||(decide (a.kind>16)))
  ·simp only[cond_false]
   cases A6 (qo a) a
   ·intro _;rfl
   ·intro h;exact absurd h (show ¬(1:Int)=0 by decide)
  ·intro h;exact absurd h (show ¬(7:Int)=0 by decide)
 rw[←e]
 exact⟨aa,ad⟩
theorem BB{x w R:ByteArray}(h:x.data.toList=w.data.toList++32::R.data.toList)(hw:iJ 32 w):(aO 32 x).2.1=R:=by rw[yb h hw]
theorem Ns(d:Int)(c n:ByteArray):(gY d c n).data.toList=(fe d).data.toList++46::(c.data.toList++46::n.data.toList):=by
 unfold gY
 simp only[qB]
 simp
theorem Nt{d:Int}{c n:ByteArray}(hc:valid c=true)(hn:valid n=true):iJ 32 (gY d c n):=by
 intro u hu
 rw[Ns]at hu
 simp only[List.mem_append,List.mem_cons]at hu
 rcases hu with h|h|h|h|h
 ·exact(Bv d).1 u h
 ·subst h;decide
 ·exact(Fi hc).1 u h
 ·subst h;decide
 ·exact(Fi hn).1 u h
theorem Nu{d:Int}{c n:ByteArray}(hc:valid c=true):aO 46 (gY d c n)=(fe d,ByteArray.append (ByteArray.append c ⟨#[46]⟩) n,true)∧aO 46 (ByteArray.append (ByteArray.append c ⟨#[46]⟩) n)=(c,n,true):=by
 refine⟨yb ?_ (Bv d).2,yb ?_ (Fi hc).2⟩
 ·rw[Ns]
  simp only[qB];simp
 ·simp only[qB]
  simp
theorem yd{s:ByteArray}(h:s=fe (cK s).1):(cK s).2=true:=by
 cases hf:(cK s).2 with
 |true=>rfl
 |false=>
  rw[Nf hf]at h
  have h:s=⟨#[48]⟩:=h
  rw[h,Nd]at hf;cases hf
theorem Nv{P S:ByteArray}(oe:iJ 32 P):aO 32 (ByteArray.append (ByteArray.append P ⟨#[32]⟩) S)=(P,S,true):=yb (by simp only[qB];simp) oe
theorem BC{x y:ByteArray}(h:x=y):x.data.toList=y.data.toList:=by rw[h]
theorem VE{K:Int}{x r:ByteArray}(hK:((K==2)||(K==13))=true)(hw:iJ 32 (hP K))(af:r=(aO 32 x).2.1)(ag:bz r)(h:nG (hj K r) x):(h3 K r (aO 32 r).1 (aO 32 r).2.1).2=true:=by
 have aW:hj K r=⟨K,0,0,⟨(cK (aO 46 (aO 32 r).1).1).1,(aO 46 (aO 46 (aO 32 r).1).2.1).1,(aO 46 (aO 46 (aO 32 r).1).2.1).2.1⟩,⟨(e7 (aO 32 r).2.1).1.kind,(e7 (aO 32 r).2.1).1.n,(e7 (aO 32 r).2.1).1.s⟩,⟨0,⟨#[]⟩,⟨#[]⟩⟩,⟨⟨#[]⟩,⟨0,0,⟨0,⟨#[]⟩,⟨#[]⟩⟩,⟨#[]⟩,⟨0,0,⟨#[]⟩⟩,⟨#[]⟩⟩⟩⟩:=by
  unfold hj;rw[hK,cond_true]
 obtain⟨cQ,dE⟩:=yc h
 rw[aW]at cQ dE
 unfold mM at cQ dE
 dsimp only at cQ dE
 rw[hK,cond_true]at cQ dE
 generalize hd:(cK (aO 46 (aO 32 r).1).1).1=d at cQ dE
 generalize hc:(aO 46 (aO 46 (aO 32 r).1).2.1).1=c at cQ dE
 generalize hn:(aO 46 (aO 46 (aO 32 r).1).2.1).2.1=n at cQ dE
 revert cQ dE
 cases dj 0 0 0
 ·cases hE d
  ·simp only[cond_false]
   cases Fs:valid c
   ·intro cQ;exact absurd cQ (show ¬(10:Int)=0 by decide)
   ·cases Nw:valid n
    ·intro cQ;exact absurd cQ (show ¬(10:Int)=0 by decide)
    ·simp only[Bool.not_true,Bool.or_self,cond_false]
     cases av:(eU ⟨(e7 (aO 32 r).2.1).1.kind,(e7 (aO 32 r).2.1).1.n,(e7 (aO 32 r).2.1).1.s⟩ != 0)
     ·simp only[cond_false]
      cases fi:((e7 (aO 32 r).2.1).1.kind==0)
      ·intro _ dE
       have dE:ByteArray.append (ByteArray.append (ByteArray.append (ByteArray.append (hP K) ⟨#[32]⟩) (gY d c n)) ⟨#[32]⟩) (fT ⟨(e7 (aO 32 r).2.1).1.kind,(e7 (aO 32 r).2.1).1.n,(e7 (aO 32 r).2.1).1.s⟩)=x:=dE
       have tQ:r=ByteArray.append (ByteArray.append (gY d c n) ⟨#[32]⟩) (fT ⟨(e7 (aO 32 r).2.1).1.kind,(e7 (aO 32 r).2.1).1.n,(e7 (aO 32 r).2.1).1.s⟩):=by
        refine af.trans (BB (x:=x) ?_ hw)
        rw[←BC dE];simp only[qB];simp
       have aL:=Nv (P:=gY d c n) (S:=fT ⟨(e7 (aO 32 r).2.1).1.kind,(e7 (aO 32 r).2.1).1.n,(e7 (aO 32 r).2.1).1.s⟩) (Nt Fs Nw)
       rw[←tQ]at aL
       have aI:(aO 32 r).1=gY d c n:=by rw[aL]
       obtain⟨aw,ey⟩:=Nu (d:=d) (n:=n) Fs
       have hf:(cK (fe d)).2=true:=yd (by
        have:=hd
        rw[aI,aw]at this
        rw[this])
       have v0:(e7 (aO 32 r).2.1).2=0:=by
        rw[Nb]at fi⊢;unfold nF at fi⊢;revert fi
        cases (a8 .eql (aO 32 r).2.1 (⟨#[]⟩:ByteArray)||a8 .neq (fT (ya (aO 32 r).2.1)) (aO 32 r).2.1)
        ·intro _;rfl
        ·intro h;cases h
       unfold h3;rw[hK,cond_true];dsimp only;rw[v0,aI,E4,vA (by rw[←aI];exact(kY ag).1),aw]
       dsimp only;rw[vA (by have:=(kY (c:=46) (by rw[←aI];exact(kY ag).1:bz (gY d c n))).2;rw[aw]at this;exact this),ey]
       dsimp only;rw[hf];rfl
      ·intro cQ;exact absurd cQ (show ¬(4:Int)=0 by decide)
     ·simp only[cond_true]
      intro cQ;rw[show eU ⟨(e7 (aO 32 r).2.1).1.kind,(e7 (aO 32 r).2.1).1.n,(e7 (aO 32 r).2.1).1.s⟩=0 from cQ]at av
      cases av
  ·intro cQ;exact absurd cQ (show ¬(2:Int)=0 by decide)
 ·intro cQ;exact absurd cQ (show ¬(2:Int)=0 by decide)
theorem Nx{K:Int}{x:ByteArray}{d:Int}{c n:ByteArray}(ad:((K==2)||(K==13))=false)(aq:(K==3)=true)(hw:iJ 32 (hP K))(h:nG ⟨K,0,0,⟨0,⟨#[]⟩,⟨#[]⟩⟩,⟨0,0,⟨#[]⟩⟩,⟨d,c,n⟩,⟨⟨#[]⟩,⟨0,0,⟨0,⟨#[]⟩,⟨#[]⟩⟩,⟨#[]⟩,⟨0,0,⟨#[]⟩⟩,⟨#[]⟩⟩⟩⟩ x):
 (aO 32 x).2.1=gY d c n∧valid c=true∧valid n=true:=by
 obtain⟨cQ,dE⟩:=yc h
 unfold mM at cQ dE
 dsimp only at cQ dE
 rw[ad,aq,cond_false,cond_true]at cQ dE
 revert cQ dE
 cases dj 0 0 0
 ·cases hE d
  ·simp only[cond_false]
   cases Fs:valid c
   ·intro cQ;exact absurd cQ (show ¬(10:Int)=0 by decide)
   ·cases Nw:valid n
    ·intro cQ;exact absurd cQ (show ¬(10:Int)=0 by decide)
    ·intro _ dE
     have dE:ByteArray.append (ByteArray.append (hP K) ⟨#[32]⟩) (gY d c n)=x:=dE
     refine⟨BB (x:=x) ?_ hw,rfl,rfl⟩
     rw[←BC dE];simp only[qB];simp
  ·intro cQ;exact absurd cQ (show ¬(2:Int)=0 by decide)
 ·intro cQ;exact absurd cQ (show ¬(2:Int)=0 by decide)
end Go.aM
namespace Go.aM
open Go Go.ed
theorem VF{K n m:Int}{x:ByteArray}(ad:((K==2)||(K==13))=false)(aq:(K==3)=false)(gZ:(K==12)=false)(fc:((K==8)||(K==9))=true)(hw:iJ 32 (hP K))(h:nG ⟨K,n,m,⟨0,⟨#[]⟩,⟨#[]⟩⟩,⟨0,0,⟨#[]⟩⟩,⟨0,⟨#[]⟩,⟨#[]⟩⟩,⟨⟨#[]⟩,⟨0,0,⟨0,⟨#[]⟩,⟨#[]⟩⟩,⟨#[]⟩,⟨0,0,⟨#[]⟩⟩,⟨#[]⟩⟩⟩⟩ x):
 (aO 32 x).2.1=ByteArray.append (ByteArray.append (fe n) ⟨#[32]⟩) (fe m):=by
 obtain⟨cQ,dE⟩:=yc h
 unfold mM at cQ dE
 dsimp only at cQ dE
 rw[ad,aq,gZ,fc,cond_false,cond_false,cond_false,cond_true]at cQ dE
 revert cQ dE
 cases dj 0 n m
 ·intro _ dE
  have dE:ByteArray.append (ByteArray.append (ByteArray.append (ByteArray.append (hP K) ⟨#[32]⟩) (fe n)) ⟨#[32]⟩) (fe m)=x:=dE
  refine BB (x:=x) ?_ hw
  rw[←BC dE];simp only[qB];simp
 ·intro cQ;exact absurd cQ (show ¬(2:Int)=0 by decide)
theorem Ny{K n:Int}{x:ByteArray}(ad:((K==2)||(K==13))=false)(aq:(K==3)=false)(gZ:(K==12)=false)(fc:((K==8)||(K==9))=false)(l4:(K==14)=false)(hw:iJ 32 (hP K))(h:nG ⟨K,n,0,⟨0,⟨#[]⟩,⟨#[]⟩⟩,⟨0,0,⟨#[]⟩⟩,⟨0,⟨#[]⟩,⟨#[]⟩⟩,⟨⟨#[]⟩,⟨0,0,⟨0,⟨#[]⟩,⟨#[]⟩⟩,⟨#[]⟩,⟨0,0,⟨#[]⟩⟩,⟨#[]⟩⟩⟩⟩ x):
 (aO 32 x).2.1=fe n:=by
 obtain⟨cQ,dE⟩:=yc h
 unfold mM at cQ dE
 dsimp only at cQ dE
 rw[ad,aq,gZ,fc,l4,cond_false,cond_false,cond_false,cond_false,cond_false]at cQ dE
 revert cQ dE
 cases dj (bif(K==11)then -1 else 0) n 0
 ·intro _ dE
  have dE:ByteArray.append (ByteArray.append (hP K) ⟨#[32]⟩) (fe n)=x:=dE
  refine BB (x:=x) ?_ hw
  rw[←BC dE];simp only[qB];simp
 ·intro cQ;exact absurd cQ (show ¬(2:Int)=0 by decide)
theorem VG{K:Int}{x t:ByteArray}{q:dI}(ad:((K==2)||(K==13))=false)(aq:(K==3)=false)(gZ:(K==12)=true)(h:nG ⟨K,0,0,⟨0,⟨#[]⟩,⟨#[]⟩⟩,⟨0,0,⟨#[]⟩⟩,⟨0,⟨#[]⟩,⟨#[]⟩⟩,⟨t,q⟩⟩ x):h1 ⟨t,q⟩ (gC (eZ q))=false:=by
 obtain⟨cQ,_⟩:=yc h
 unfold mM at cQ
 dsimp only at cQ
 rw[ad,aq,gZ,cond_false,cond_false,cond_true]at cQ
 revert cQ
 cases dj 0 0 0
 ·unfold EV
  dsimp only
  cases h1 ⟨t,q⟩ (gC (eZ q))
  ·intro _;rfl
  ·intro cQ;exact absurd cQ (show ¬(4:Int)=0 by decide)
 ·intro cQ;exact absurd cQ (show ¬(2:Int)=0 by decide)
theorem VH{t s:ByteArray}{q:dI}(h:h1 ⟨t,q⟩ (gC s)=false):1≤q.kind:=by
 unfold h1 at h
 rw[Bool.or_eq_false_iff,Bool.not_eq_false']at h
 obtain⟨aa,ad⟩:=h
 have aj:(gC s).1.kind=q.kind:=by
  revert ad
  cases he:((gC s).1.kind==q.kind)
  ·intro h;cases h
  ·intro _;simpa using he
 rw[←aj]
 have aa:(gC s).2=0:=by simpa using aa
 revert aa
 unfold gC
 split
 ·rename_i h;intro aa;exact absurd (by simpa using aa) h
 ·split
  ·intro aa;exact absurd aa (show ¬(7:Int)=0 by decide)
  ·rename_i h
   split
   ·intro aa;exact absurd aa (show ¬(2:Int)=0 by decide)
   ·intro _
    show 1≤(eE s).kind;omega
theorem VI{s:ByteArray}(h:(gC s).2≠0):(gC s).1.kind=0:=by
 revert h
 unfold gC
 split
 ·intro _;rfl
 ·split
  ·intro _;rfl
  ·split
   ·intro _;rfl
   ·intro h;exact absurd rfl h
theorem VJ:(gC ⟨#[]⟩).1.kind=0:=by decide+kernel
theorem VK(x:ByteArray):(gr x).2=0∨(gr x).1=⟨#[]⟩:=by
 unfold gr
 dsimp only
 cases ((ba .rem .i64 (x.size:Int) (2:Int)) != 0)with
 |true=>exact .inr rfl
 |false=>
  simp only[cond_false];refine EZ (Q:=fun r:ByteArray × Int=>r.2=0∨r.1=⟨#[]⟩) (fun r af=>?_) (fun c hc=>.inl rfl)
  have:r=(⟨#[]⟩,4):=by
   refine MO (Q:=fun r=>r=(⟨#[]⟩,4)) ?_ _ _ _ af
   intro a r h;revert h;simp only[cond_eq_ite]
   repeat' split
   ·intro h;cases h;rfl
   ·intro h;cases h
   ·intro h;cases h
  rw[this];exact .inr rfl
theorem VL(K:Int):((K==2)||(K==13))=true∨(((K==2)||(K==13))=false∧(K==3)=true)∨(((K==2)||(K==13))=false∧(K==3)=false∧(K==12)=true∧((K==8)||(K==9))=false)∨
 (((K==2)||(K==13))=false∧(K==3)=false∧(K==12)=false∧((K==8)||(K==9))=true)∨(((K==2)||(K==13))=false∧(K==3)=false∧(K==12)=false∧((K==8)||(K==9))=false∧(K==14)=true)∨
 (((K==2)||(K==13))=false∧(K==3)=false∧(K==12)=false∧((K==8)||(K==9))=false∧(K==14)=false):=by
 rcases A5 K with h|h|h|h|h|h|h|h|⟨aa,ad,aq,aS,bC,cC,dB,fc⟩
 ·subst h;exact .inl rfl
 ·subst h;exact .inl rfl
 ·subst h;exact .inr (.inl ⟨rfl,rfl⟩)
 ·subst h;exact .inr (.inr (.inl ⟨rfl,rfl,rfl,rfl⟩))
 ·subst h;exact .inr (.inr (.inr (.inl ⟨rfl,rfl,rfl,rfl⟩)))
 ·subst h;exact .inr (.inr (.inr (.inl ⟨rfl,rfl,rfl,rfl⟩)))
 ·subst h;exact .inr (.inr (.inr (.inr (.inl ⟨rfl,rfl,rfl,rfl,rfl⟩))))
 ·subst h;exact .inr (.inr (.inr (.inr (.inr ⟨rfl,rfl,rfl,rfl,rfl⟩))))
 ·refine .inr (.inr (.inr (.inr (.inr ⟨?_,aq,aS,?_,dB⟩))))
  ·rw[aa,ad];rfl
  ·rw[bC,cC];rfl
theorem Nz{r:ByteArray}(af:bz r):(h2 r).1=(cK (aO 46 r).1).1∧(h2 r).2.1=(aO 46 (aO 46 r).2.1).1∧(h2 r).2.2.1=(aO 46 (aO 46 r).2.1).2.1∧(h2 r).2.2.2=(((aO 46 r).2.2&&(aO 46 (aO 46 r).2.1).2.2)&&(cK (aO 46 r).1).2):=by
 rw[E4,vA af,vA (kY af).2]
 exact⟨rfl,rfl,rfl,rfl⟩
theorem VM{K:Int}{x r:ByteArray}(hw:iJ 32 (hP K))(af:r=(aO 32 x).2.1)(ag:bz r):
 (nG (hj K r) x→(h3 K r (aO 32 r).1 (aO 32 r).2.1).1=hj K r∧(h3 K r (aO 32 r).1 (aO 32 r).2.1).2=true)∧(nG (h3 K r (aO 32 r).1 (aO 32 r).2.1).1 x→(h3 K r (aO 32 r).1 (aO 32 r).2.1).1=hj K r):=by
 have NA:=kY (c:=32) ag
 rcases VL K with ad|⟨ad,aq⟩|⟨ad,aq,gZ,fc⟩|⟨ad,aq,gZ,fc⟩|⟨ad,aq,gZ,fc,l4⟩|⟨ad,aq,gZ,fc,l4⟩
 ·have e:(h3 K r (aO 32 r).1 (aO 32 r).2.1).1=hj K r:=by
   obtain⟨dk,dy,ky,_⟩:=Nz NA.1;unfold h3 hj;rw[ad,cond_true,cond_true,dk,dy,ky]
  exact⟨fun h=>⟨e,VE ad hw af ag h⟩,fun _=>e⟩
 ·obtain⟨dk,dy,ky,qD⟩:=Nz ag
  have aA:(h3 K r (aO 32 r).1 (aO 32 r).2.1)=((⟨K,0,0,⟨0,⟨#[]⟩,⟨#[]⟩⟩,⟨0,0,⟨#[]⟩⟩,⟨(cK (aO 46 r).1).1,(aO 46 (aO 46 r).2.1).1,(aO 46 (aO 46 r).2.1).2.1⟩,⟨⟨#[]⟩,⟨0,0,⟨0,⟨#[]⟩,⟨#[]⟩⟩,⟨#[]⟩,⟨0,0,⟨#[]⟩⟩,⟨#[]⟩⟩⟩⟩:aK),(((aO 46 r).2.2&&(aO 46 (aO 46 r).2.1).2.2)&&(cK (aO 46 r).1).2)):=by
   unfold h3;rw[ad,aq,cond_false,cond_true,dk,dy,ky,qD]
  have aW:hj K r=⟨K,0,0,⟨0,⟨#[]⟩,⟨#[]⟩⟩,⟨0,0,⟨#[]⟩⟩,⟨(cK (aO 46 (aO 32 r).1).1).1,(aO 46 (aO 46 (aO 32 r).1).2.1).1,(aO 46 (aO 46 (aO 32 r).1).2.1).2.1⟩,⟨⟨#[]⟩,⟨0,0,⟨0,⟨#[]⟩,⟨#[]⟩⟩,⟨#[]⟩,⟨0,0,⟨#[]⟩⟩,⟨#[]⟩⟩⟩⟩:=by
   unfold hj;rw[ad,aq,cond_false,cond_true]
  rw[aA,aW]
  have one: ∀d c n,r=gY d c n→valid c=true→valid n=true→(aO 32 r).1=r:=fun d c n h v1 v2=>by
   rw[Bu (by rw[h];exact Nt v1 v2)]
  refine⟨fun h=>?_,fun h=>?_⟩
  ·obtain⟨t1,t2,t3⟩:=Nx ad aq hw h
   rw[←af]at t1
   have bD:=one _ _ _ t1 t2 t3
   rw[bD]at t1 t2 t3⊢;refine⟨rfl,?_⟩
   generalize hd:(cK (aO 46 r).1).1=d at t1;generalize hc:(aO 46 (aO 46 r).2.1).1=c at t1 t2;generalize hn:(aO 46 (aO 46 r).2.1).2.1=n at t1 t3;obtain⟨aw,ey⟩:=Nu (d:=d) (n:=n) t2;rw[←t1]at aw
   have hf:(cK (fe d)).2=true:=yd (by
    rw[aw]at hd
    rw[hd])
   rw[aw];dsimp only;rw[ey,hf];rfl
  ·obtain⟨t1,t2,t3⟩:=Nx ad aq hw h
   rw[←af]at t1;rw[one _ _ _ t1 t2 t3]
 ·have aA:(h3 K r (aO 32 r).1 (aO 32 r).2.1)=((⟨K,0,0,⟨0,⟨#[]⟩,⟨#[]⟩⟩,⟨0,0,⟨#[]⟩⟩,⟨0,⟨#[]⟩,⟨#[]⟩⟩,⟨(aO 32 r).1,(hC (gr (aO 32 r).2.1).1).1⟩⟩:aK),(((gr (aO 32 r).2.1).2==0)&&((hC (gr (aO 32 r).2.1).1).2==0))):=by
   unfold h3;rw[ad,aq,gZ,cond_false,cond_false,cond_true]
  have aW:hj K r=⟨K,0,0,⟨0,⟨#[]⟩,⟨#[]⟩⟩,⟨0,0,⟨#[]⟩⟩,⟨0,⟨#[]⟩,⟨#[]⟩⟩,⟨(aO 32 r).1,(hC (gr (aO 32 r).2.1).1).1⟩⟩:=by
   unfold hj;rw[ad,aq,fc,gZ,cond_false,cond_false,cond_false,cond_true]
  rw[aA,aW];refine⟨fun h=>⟨rfl,?_⟩,fun _=>rfl⟩
  have aL:=VH (VG ad aq gZ h)
  rw[vj (tF NA.2)]at aL⊢
  have d0:(gC (gr (aO 32 r).2.1).1).2=0:=by
   by_cases aU:(gC (gr (aO 32 r).2.1).1).2=0
   ·exact aU
   ·rw[VI aU]at aL
    exact absurd aL (by decide)
  have x0:(gr (aO 32 r).2.1).2=0:=by
   rcases VK (aO 32 r).2.1 with aU|aU
   ·exact aU
   ·rw[aU,VJ]at aL
    exact absurd aL (by decide)
  rw[d0,x0];rfl
 ·have aA:(h3 K r (aO 32 r).1 (aO 32 r).2.1)=((⟨K,(cK (aO 32 r).1).1,(cK (aO 32 r).2.1).1,⟨0,⟨#[]⟩,⟨#[]⟩⟩,⟨0,0,⟨#[]⟩⟩,⟨0,⟨#[]⟩,⟨#[]⟩⟩,⟨⟨#[]⟩,⟨0,0,⟨0,⟨#[]⟩,⟨#[]⟩⟩,⟨#[]⟩,⟨0,0,⟨#[]⟩⟩,⟨#[]⟩⟩⟩⟩:aK),((cK (aO 32 r).1).2&&(cK (aO 32 r).2.1).2)):=by
   unfold h3;rw[ad,aq,gZ,fc,cond_false,cond_false,cond_false,cond_true]
  have aW:hj K r=⟨K,(cK (aO 32 r).1).1,(cK (aO 32 r).2.1).1,⟨0,⟨#[]⟩,⟨#[]⟩⟩,⟨0,0,⟨#[]⟩⟩,⟨0,⟨#[]⟩,⟨#[]⟩⟩,⟨⟨#[]⟩,⟨0,0,⟨0,⟨#[]⟩,⟨#[]⟩⟩,⟨#[]⟩,⟨0,0,⟨#[]⟩⟩,⟨#[]⟩⟩⟩⟩:=by
   unfold hj;rw[ad,aq,fc,cond_false,cond_false,cond_true]
  rw[aA,aW];refine⟨fun h=>⟨rfl,?_⟩,fun _=>rfl⟩
  have t:=VF ad aq gZ fc hw h
  rw[←af]at t
  have hc:=Nv (P:=fe (cK (aO 32 r).1).1) (S:=fe (cK (aO 32 r).2.1).1) (Bv _).1
  rw[←t]at hc
  have f1:(cK (aO 32 r).1).2=true:=yd (by have:=congrArg Prod.fst hc;exact this)
  have f2:(cK (aO 32 r).2.1).2=true:=yd (by have:=congrArg (fun z=>z.2.1) hc;exact this)
  rw[f1,f2];rfl
 ·have aA:(h3 K r (aO 32 r).1 (aO 32 r).2.1)=(hj K r,true):=by
   unfold h3 hj;rw[ad,aq,gZ,fc,l4,cond_false,cond_false,cond_false,cond_false,cond_true,cond_false,cond_false,cond_false,cond_false,cond_true]
  rw[aA];exact⟨fun _=>⟨rfl,rfl⟩,fun _=>rfl⟩
 ·have aA:(h3 K r (aO 32 r).1 (aO 32 r).2.1)=((⟨K,(cK r).1,0,⟨0,⟨#[]⟩,⟨#[]⟩⟩,⟨0,0,⟨#[]⟩⟩,⟨0,⟨#[]⟩,⟨#[]⟩⟩,⟨⟨#[]⟩,⟨0,0,⟨0,⟨#[]⟩,⟨#[]⟩⟩,⟨#[]⟩,⟨0,0,⟨#[]⟩⟩,⟨#[]⟩⟩⟩⟩:aK),(cK r).2):=by
   unfold h3;rw[ad,aq,gZ,fc,l4,cond_false,cond_false,cond_false,cond_false,cond_false]
  have aW:hj K r=⟨K,(cK (aO 32 r).1).1,0,⟨0,⟨#[]⟩,⟨#[]⟩⟩,⟨0,0,⟨#[]⟩⟩,⟨0,⟨#[]⟩,⟨#[]⟩⟩,⟨⟨#[]⟩,⟨0,0,⟨0,⟨#[]⟩,⟨#[]⟩⟩,⟨#[]⟩,⟨0,0,⟨#[]⟩⟩,⟨#[]⟩⟩⟩⟩:=by
   unfold hj;rw[ad,aq,fc,gZ,l4,cond_false,cond_false,cond_false,cond_false,cond_false]
  rw[aA,aW]
  have one: ∀n,r=fe n→(aO 32 r).1=r:=fun n h=>by rw[Bu (by rw[h];exact(Bv n).1)]
  refine⟨fun h=>?_,fun h=>?_⟩
  ·have t:=Ny ad aq gZ fc l4 hw h
   rw[←af]at t
   have bD:=one _ t
   rw[bD]at t⊢;exact⟨rfl,yd t⟩
  ·have t:=Ny ad aq gZ fc l4 hw h
   rw[←af]at t;rw[one _ t]
theorem VN(K:Int):iJ 32 (hP K):=by
 have: ∀j:Nat,∀u∈(List.getD qp j (dJ .str)).data.toList,u≠32:=by
  intro j
  rcases Nat.lt_or_ge j 16 with h|h
  ·revert j
   decide+kernel
  ·rw[List.getD_eq_getElem?_getD,List.getElem?_eq_none (by exact h)]
   intro u hu;cases hu
 exact this _
theorem VO{x:ByteArray}(hx:bz x):m16 x=m17 x:=by
 have ag:=(kY (c:=32) hx).2
 by_cases h: ∃k:Nat,k<16∧iL k=(aO 32 x).1
 ·obtain⟨k,aj,he⟩:=h
  have hK:di ((k+1:Nat):Int):=⟨by omega,by omega⟩
  rw[VC hx aj he];unfold pv m17;rw[Nq hx aj he,MY,vA ag];obtain⟨i,j⟩:=VM (K:=((k+1:Nat):Int)) (x:=x) (VN _) rfl ag;exact VD (MX hK ag (kY ag).1 (kY ag).2) (BA hK ag) i j
 ·have h: ∀i:Nat,i<16→iL i≠(aO 32 x).1:=fun i hi e=>h ⟨i,hi,e⟩
  rw[VB hx h];unfold m17;rw[Nr hx h]
  have e:(m14 (hj 0 (aO 32 x).2.1)).2=7:=by
   rw[Ba (BA bN ag)];rfl
  dsimp only;rw[e];rfl
end Go.aM
namespace Go.aM
open Go Go.ed
def fS(x:ByteArray):Prop:=x.size≤6000
theorem fS.l5{x:ByteArray}(h:fS x):bz x:=by unfold fS at h;unfold bz;omega
theorem BD{c:UInt8}{x:ByteArray}(hx:fS x):fS (aO c x).1∧fS (aO c x).2.1:=by
 unfold fS at hx
 unfold aO
 split
 ·unfold fS
  dsimp only;rw[ByteArray.size_extract,ByteArray.size_extract];omega
 ·exact⟨hx,Nat.zero_le _⟩
theorem ye{x:ByteArray}(hx:fS x)(c:Int):rZ x c:=by
 unfold fS at hx
 refine⟨⟨by omega,by omega⟩,fun _ _=>True,trivial,fun i _ hi _=>⟨fun _=>?_,fun _=>trivial⟩⟩
 have hi:i<x.size:=by rwa[Int.toNat_natCast]at hi
 have w:IntKind.wrap .i64 ((i:Int)+(1:Int))=((i+1:Nat):Int):=by rw[c4 _ (by omega) (by omega)];omega
 rw[w]
 exact⟨⟨by omega,by omega⟩,⟨by omega,by omega⟩⟩
theorem yf(x:ByteArray):r0 x:=by
 unfold r0
 intro v1 l4
 have l4: ¬(x.size:Int)>14:=of_decide_eq_false l4
 intro ay
 have dG: ∀v:Int,0≤v→ay v:=by
  intro v av;refine⟨fun d=>di d.1∧0≤d.2,fun d=>x.size+15-d.2.toNat,⟨bN,av⟩,?_,?_⟩
  ·show x.size+15-v.toNat<18446744073709551616
   omega
  ·intro d0 hd
   obtain⟨d1,d2⟩:=hd;refine⟨fun h=>?_,fun _=>⟨fun _ _=>(vx _).p,fun _ _=>d1.p⟩⟩
   have h:d0.2<(x.size:Int):=of_decide_eq_true h
   have w:IntKind.wrap .i64 (d0.2+1)=d0.2+1:=c4 _ (by omega) (by omega)
   refine⟨⟨d2,h⟩,fun _=>⟨d2,h⟩,fun _=>⟨⟨d2,h⟩,⟨vx _,?_⟩,?_⟩⟩
   ·show 0≤IntKind.wrap .i64 (d0.2+1)
    rw[w];omega
   ·show x.size+15-(IntKind.wrap .i64 (d0.2+1)).toNat<x.size+15-d0.2.toNat
    rw[w];omega
 exact⟨fun h=>⟨Int.le_refl _,of_decide_eq_true h⟩,fun _=>dG 1 (by decide),fun _=>dG 0 (by decide)⟩
theorem VP{x:ByteArray}(hx:fS x):BE x 0:=by
 unfold fS at hx
 unfold BE
 intro v2 v3
 have aq:v3=false→(0:Int)<(x.size:Int):=fun h=>by
  have h: ¬(0:Int)≥(x.size:Int):=of_decide_eq_false h
  omega
 refine⟨fun h=>⟨Int.le_refl _,aq h⟩,fun h=>?_⟩
 have ag:=aq (Bool.or_eq_false_iff.1 h).1
 intro aV
 refine⟨fun d=>1≤d.1∧d.1≤(x.size:Int)∧(d.2.length:Int)+1≤d.1,fun d=>x.size+10-d.1.toNat,⟨show(1:Int)≤1 by decide,show(1:Int)≤_ by omega,show((0:Nat):Int)+1≤1 by decide⟩,?_,?_⟩
 ·show x.size+10-Int.toNat 1<18446744073709551616
  omega
 ·intro d0 hd
  obtain⟨d1,d2,d3⟩:=hd
  have cq:IntKind.wrap .i64 (d0.1+1)=d0.1+1:=c4 _ (by omega) (by omega)
  have cy:IntKind.wrap .i64 (d0.1+2)=d0.1+2:=c4 _ (by omega) (by omega)
  have im:IntKind.wrap .i64 (d0.1+3)=d0.1+3:=c4 _ (by omega) (by omega)
  have mQ:IntKind.wrap .i64 (d0.1+4)=d0.1+4:=c4 _ (by omega) (by omega)
  have key: ∀(s:Int) (v:Int),1≤s→d0.1+s≤(x.size:Int)→(List.length d0.2+List.length [v]≤maxLen∧(List.length d0.2+List.length [v])*1≤140737488355328)∧(1≤d0.1+s∧d0.1+s≤(x.size:Int)∧((List.append d0.2 [v]).length:Int)+1≤d0.1+s)∧x.size+10-(d0.1+s).toNat<x.size+10-d0.1.toNat:=by
   intro s v NB Ft;rw[Bk];refine⟨⟨?_,?_⟩,⟨by omega,Ft,by omega⟩,by omega⟩
   ·show d0.2.length+1≤maxLen;unfold maxLen;omega
   ·show(d0.2.length+1)*1≤_;omega
  intro v10
  have yg:v10=true→d0.1<(x.size:Int):=fun h=>of_decide_eq_true h
  refine⟨fun h=>⟨by omega,yg h⟩,fun h=>?_,fun _=>?_⟩
  ·have bB:=yg (Bool.and_eq_true _ _ ▸ h).1
   refine⟨⟨by omega,bB⟩,fun _=>⟨⟨by omega,bB⟩,?_⟩,fun _=>?_⟩
   ·have:=key 1 (aC x d0.1) (by decide) (by omega)
    rw[←cq]at this;exact this
   ·have aA:decide (IntKind.wrap .i64 (d0.1+1)<(x.size:Int))=true→0≤IntKind.wrap .i64 (d0.1+1)∧IntKind.wrap .i64 (d0.1+1)<(x.size:Int):=fun h=>by
     have h:=of_decide_eq_true h
     rw[cq]at h⊢;omega
    have cr:decide (IntKind.wrap .i64 (d0.1+3)<(x.size:Int))=true→d0.1+3<(x.size:Int):=fun h=>by
     have h:=of_decide_eq_true h
     rwa[im]at h
    refine⟨fun h=>aA h,fun h _=>aA h,fun h=>?_,fun _=>⟨fun h=>?_,fun h=>?_,?_⟩⟩
    ·have aa:=aA (Bool.and_eq_true _ _ ▸ h).1
     refine⟨aa,?_⟩
     rw[cq]at aa
     have:=key 2 (aC x (IntKind.wrap .i64 (d0.1+1))) (by decide) (by omega)
     rw[←cy]at this;exact this
    ·have:=cr h
     rw[cq];omega
    ·have:=cr (Bool.and_eq_true _ _ ▸ h).1
     rw[cy];omega
    ·intro ay
     have dG: ∀z,ay z:=by
      intro z
      have eD:((decide (IntKind.wrap .i64 (d0.1+3)<(x.size:Int))&&((aC x (IntKind.wrap .i64 (d0.1+1)))==120))&&decide (z≥0))=true→d0.1+3<(x.size:Int):=fun h=>cr (Bool.and_eq_true _ _ ▸ (Bool.and_eq_true _ _ ▸ h).1).1
      have fin:((decide (IntKind.wrap .i64 (d0.1+3)<(x.size:Int))&&((aC x (IntKind.wrap .i64 (d0.1+1)))==120))&&decide (z≥0))=true→∀v:Int,(0≤IntKind.wrap .i64 (d0.1+2)∧IntKind.wrap .i64 (d0.1+2)<(x.size:Int))∧(0≤IntKind.wrap .i64 (d0.1+3)∧IntKind.wrap .i64 (d0.1+3)<(x.size:Int))∧
       (List.length d0.2+List.length [v]≤maxLen∧(List.length d0.2+List.length [v])*1≤140737488355328)∧(1≤IntKind.wrap .i64 (d0.1+4)∧IntKind.wrap .i64 (d0.1+4)≤(x.size:Int)∧((List.append d0.2 [v]).length:Int)+1≤IntKind.wrap .i64 (d0.1+4))∧x.size+10-(IntKind.wrap .i64 (d0.1+4)).toNat<x.size+10-d0.1.toNat:=fun h v=>by
       have:=eD h
       rw[cy,im,mQ];exact⟨by omega,by omega,key 4 v (by decide) (by omega)⟩
      refine⟨fun h=>?_,fun _ h=>?_,fun _ h=>?_⟩
      ·have:=eD h
       rw[im];omega
      ·exact fin (Bool.and_eq_true _ _ ▸ h).1 _
      ·exact fin (Bool.and_eq_true _ _ ▸ h).1 _
     exact⟨fun _=>dG _,fun _=>dG _⟩
  ·have ae:(bytesOf d0.2).size≤1000000:=by rw[vc];omega
   refine⟨fun h=>?_,fun _=>Mv ae⟩
   have h: ¬d0.1≥(x.size:Int):=of_decide_eq_false h
   show 0≤(0:Int)∧(0:Int)≤IntKind.wrap .i64 (d0.1+1)∧IntKind.wrap .i64 (d0.1+1)≤(x.size:Int);rw[cq];omega
theorem VQ{x:ByteArray}(hx:fS x):Fu x:=by
 intro _
 refine⟨fun h=>⟨Int.le_refl _,vy h⟩,fun h=>?_,fun _=>⟨fun h=>⟨Int.le_refl _,vy h⟩,fun _=>VP hx,fun _=>yf _⟩⟩
 have h:=vy (Bool.and_eq_true _ _ ▸ h).1
 exact⟨⟨by decide,by omega⟩,yf _⟩
theorem VR(x:ByteArray):di (qA x).n:=by
 have o:di 1:=mK (by decide) (by decide)
 unfold qA
 simp only[Bq]
 have fE:=mO x
 have e0:=mO (bk x (some (1:Int)) none)
 generalize cK x=A at fE⊢
 generalize cK (bk x (some (1:Int)) none)=B at e0⊢
 generalize tL x=C
 simp only[cond_eq_ite]
 repeat' split
 all_goals first|exact o|exact bN|exact fE|exact e0
theorem VS{x:ByteArray}(hx:fS x):BF x:=⟨VQ hx,fun _=>Mx (v:=qA x) (VR x)⟩
theorem VT{x:ByteArray}(hx:fS x):tR x:=by
 unfold tR
 intro v1 av
 have h:(ba .rem .i64 (x.size:Int) 2 != 0)=false:=av
 have h:(x.size:Int).tmod 2=0:=by simpa[ba]using h
 unfold fS at hx
 refine⟨fun d=>0≤d.1∧d.1≤(x.size:Int)∧d.1%2=0∧(d.2.length:Int)≤d.1,fun d=>x.size-d.1.toNat,⟨Int.le_refl _,by show(0:Int)≤_;omega,rfl,Int.le_refl _⟩,?_,?_⟩
 ·show x.size-Int.toNat 0<18446744073709551616
  omega
 ·intro d0 hd
  obtain⟨d1,d2,d3,d4⟩:=hd;intro bB
  have bB:d0.1<(x.size:Int):=of_decide_eq_true bB
  rw[Int.tmod_eq_emod_of_nonneg (by omega)]at h
  have cq:IntKind.wrap .i64 (d0.1+1)=d0.1+1:=c4 _ (by omega) (by omega)
  have cy:IntKind.wrap .i64 (d0.1+2)=d0.1+2:=c4 _ (by omega) (by omega)
  refine⟨⟨d1,bB⟩,?_,fun _=>⟨⟨?_,?_⟩,⟨?_,?_,?_,?_⟩,?_⟩⟩
  ·show 0≤IntKind.wrap .i64 (d0.1+1)∧IntKind.wrap .i64 (d0.1+1)<_
   rw[cq];omega
  ·show d0.2.length+1≤maxLen
   unfold maxLen;omega
  ·show(d0.2.length+1)*1≤_
   omega
  ·show 0≤IntKind.wrap .i64 (d0.1+2)
   rw[cy];omega
  ·show IntKind.wrap .i64 (d0.1+2)≤_
   rw[cy];omega
  ·show IntKind.wrap .i64 (d0.1+2)%2=0
   rw[cy];omega
  ·show((List.append d0.2 [_]).length:Int)≤IntKind.wrap .i64 (d0.1+2)
   rw[cy,Bk];omega
  ·show x.size-(IntKind.wrap .i64 (d0.1+2)).toNat<x.size-d0.1.toNat
   rw[cy];omega
theorem Fv{x:ByteArray}(hx:fS x):(fS (cv x 32).1∧fS (cv x 32).2)∧fS (cv x 46).1∧fS (cv x 46).2:=by
 have aA:cv x 32=((aO 32 x).1,(aO 32 x).2.1):=qy hx.l5 32
 have aW:cv x 46=((aO 46 x).1,(aO 46 x).2.1):=qy hx.l5 46
 rw[aA,aW]
 exact⟨BD hx,BD hx⟩
theorem VU{x:ByteArray}(hx:fS x):Fw x:=by
 have s1:=(Fv hx).1
 have s2:=(Fv s1.2).1
 have hh:=(Fv s2.1).2
 refine⟨ye hx _,?_⟩
 refine⟨fun _ _=>True,trivial,fun _ _ _ _=>⟨fun _=>trivial,fun _=>trivial⟩,fun bj _=>?_⟩
 refine⟨ye s1.2 _,ye s2.1 _,ye hh.2 _,yf _,yf _,yf _,?_⟩
 have gZ:(bj==12)=true→(tR (cv (cv x 32).2 32).2)∧qk (oj (cv (cv x 32).2 32).2).1:=fun _=>⟨VT s2.2,Mh (by rw[M8];exact tF s2.2.l5)⟩
 have fJ: ∀v:Bool,(v=true→BF (cv (cv x 32).2 32).2)∧(v=false→((bj==3)=false→(((bj==8)=true→((bj==8)=false→(bj==12)=true→(tR (cv (cv x 32).2 32).2)∧qk (oj (cv (cv x 32).2 32).2).1))∧((bj==8)=false→((bj==9)=false→(bj==12)=true→(tR (cv (cv x 32).2 32).2)∧qk (oj (cv (cv x 32).2 32).2).1))))):=
  fun v=>⟨fun _=>VS s2.2,fun _ _=>⟨fun _ _=>gZ,fun _ _=>gZ⟩⟩
 exact⟨fun _=>fJ _,fun _=>fJ _⟩
theorem VV{x:ByteArray}(hx:fS x):hM (tP x):=by
 have ag:=(kY (c:=32) hx.l5).2
 by_cases h: ∃k:Nat,k<16∧iL k=(aO 32 x).1
 ·obtain⟨k,aj,he⟩:=h
  rw[Nq hx.l5 aj he];exact BA ⟨by omega,by omega⟩ ag
 ·rw[Nr hx.l5 fun i hi e=>h ⟨i,hi,e⟩]
  exact BA bN ag
theorem VW{x:ByteArray}(hx:fS x):BG x:=⟨VU hx,MM (VV hx)⟩
end Go.aM
