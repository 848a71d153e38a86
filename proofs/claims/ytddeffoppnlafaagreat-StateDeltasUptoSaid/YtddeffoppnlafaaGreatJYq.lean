/- Conditions: none. -/
import Derived.Test.YtddeffoppnlafaaGreatJTEv
import Derived.Laws.RangeString
import Derived.Laws.RangeAny
import Derived.Laws.BitsAllLaws
import Derived.Laws.DeepNot64
import Derived.Test.YtddeffoppnlafaaGreatJPm
open Array renaming toList_append->zVw,toList_extract->zUd
open BitVec renaming ofInt->zWv,ofNat->zUv
open Bool renaming and_eq_true->zZr,false_and->zV7,or_eq_true->zZg,true_and->zVf
open ByteArray renaming append_assoc->zUz,append_empty->zUa,data_append->zUf,data_extract->zUe,data_push->zUo,empty->zU0,ext->zUn,size->zZ6,size_append->zV6,size_extract->zUb
open Int renaming fdiv_eq_ediv_of_nonneg->zUt,le_refl->zW1,tmod_eq_emod_of_nonneg->zUs,toNat->zZ9,toNat_natCast->zW8
open List renaming append->zYz,append_assoc->zVt,append_nil->zV3,cons_append->zVl,drop->zUh,drop_drop->zW5,drop_zero->zWf,extract->zUc,getElem?_eq_getElem->zZa,length->zZ5,length_cons->zVi,length_map->zXe,map_cons->zXq,map_map->zWq,singleton_append->zUq,take_of_length_le->zYd
open Nat renaming add_assoc->zYw,add_mul->zXv,le_refl->zZv,lt_of_le_of_lt->zUk,lt_of_lt_of_le->zZw,lt_or_ge->zYm,mod_eq_of_lt->zUu,mul_assoc->zUg,mul_comm->zXn,mul_le_mul->zUl,not_lt_zero->zVd,one_pos->zV5,pow_le_pow_right->zUm,pow_pos->zUj,pow_succ->zUr,sub_zero->zVc,zero_add->zZ0,zero_le->zXx
open UInt8 renaming ofNat->zUp,toNat_ofNat'->zUi
namespace Go.aH
open Go Go.aH Go.eT
abbrev bF:=bh
def C1(n:Int)(qE:Int × (List Int)):Step Unit (Int × (List Int)):=
 match qE with
 |(pO,zbA)=>(bif decide (pO>=128)then .bJ (pO.fdiv 128,(zbA++[ml .u8 (IntKind.u8.wrap pO) 128]))else .c4 (pO,zbA))
def SL(n:Int)(qE:Int × (List Int)):Int × (List Int):=Xw (C1 n) 10 qE
def LD(n:Int):ByteArray:=
 bytesOf ((SL n (jK .u64 (IntKind.u64.wrap (IntKind.u64.wrap n*2)) (IntKind.u64.wrap (n.fdiv 9223372036854775808)),[])).2++[IntKind.u8.wrap ((SL n (jK .u64 (IntKind.u64.wrap (IntKind.u64.wrap n*2)) (IntKind.u64.wrap (n.fdiv 9223372036854775808)),[])).1)])
def uF(s:ByteArray)(oj:Nat)(qE:Int):Step (Int × Int × Int) (Int):=
 match qE with
 |(pO)=>(match(s.data.toList)[oj]? with|some qF=>(bif((decide ((oj:Int)>0)&&((qF.toNat:Int)==0))||(((oj:Int)==9)&&decide ((qF.toNat:Int)>1)))then .ret (0,0,4)else(bif decide ((qF.toNat:Int)<128)then .ret (ml .u64 pO (IntKind.u64.wrap ((IntKind.u64.wrap (np .u8 (qF.toNat:Int) 127))*2^(min (IntKind.i64.wrap (7*(oj:Int))).toNat 64))),((oj+1:Nat):Int),0)else .bJ (ml .u64 pO (IntKind.u64.wrap ((IntKind.u64.wrap (np .u8 (qF.toNat:Int) 127))*2^(min (IntKind.i64.wrap (7*(oj:Int))).toNat 64))))))|none=>.bJ qE)
def C2(s:ByteArray)(qE:Int):(Int × Int × Int)⊕(Int):=bI (uF s) 0 s.size qE
def kU(s:ByteArray):Int × Int × Int:=
 (match(C2 s (0))with| .inl SM=>SM| .inr (pO)=>(0,0,5))
def cl(r:Rd):(Int):=
 (bif !r.made then 15 else r.err)
def bk(r:Rd):(Int × Rd):=
 (bif((cl r) != 0)then(0,r)else(bif((((kU r.rest).2).2) != 0)then(0,(⟨r.rest,(((kU r.rest).2).2),r.made⟩:Rd))else(jK .i64 (IntKind.i64.wrap (((kU r.rest).1).fdiv 2)) (IntKind.i64.wrap (0-IntKind.i64.wrap (np .u64 ((kU r.rest).1) 1))),(⟨r.rest.extract ((((kU r.rest).2).1).toNat) r.rest.size,r.err,r.made⟩:Rd))))
def cL(r:Rd)(n:Int):(Int × Rd):=
 (bif((cl ((bk r).2)) != 0)then(0,((bk r).2))else(bif decide ((bk r).1<0)then(0,(⟨((bk r).2).rest,4,((bk r).2).made⟩:Rd))else(bif decide ((bk r).1>(if 0>n then 0 else n))then(0,(⟨((bk r).2).rest,3,((bk r).2).made⟩:Rd))else((bk r).1,((bk r).2)))))
def kq(r:Rd)(n:Int):(ByteArray × Rd):=
 (bif((cl ((cL r n).2)) != 0)then(⟨#[]⟩,((cL r n).2))else(bif decide ((cL r n).1>(((((cL r n).2).rest).size:Nat):Int))then(⟨#[]⟩,(⟨((cL r n).2).rest,5,((cL r n).2).made⟩:Rd))else((((cL r n).2).rest).extract 0 (((cL r n).1).toNat),(⟨(((cL r n).2).rest).extract (((cL r n).1).toNat) (((cL r n).2).rest).size,((cL r n).2).err,((cL r n).2).made⟩:Rd))))
def lj(r:Rd)(e:Int):(Rd):=
 (bif((cl r)==0)then(⟨r.rest,e,r.made⟩:Rd)else r)
def pP(r:Rd):(Int):=
 (bif((cl r) != 0)then 0 else(r.rest.size:Int))
def xW(r:Rd):(Int):=
 (bif decide ((pP r)>0)then 23 else(cl r))
def GN(n:Int):Bool:=
 (decide (n>= -1099511627776)&&decide (n<=1099511627776))
def lW(v:dH):Int:=
 (bif(((v.kind==0)||(v.kind==4))||((v.kind==1)||((v.kind==2)||(v.kind==3))))then(bif !(bif((v.kind==0)||(v.kind==4))then(v.n==0)else(bif(v.kind==1)then((v.n==0)||(v.n==1))else(bif(v.kind==2)then GN v.n else(decide (v.n>=0)&&decide (v.n<=63)))))then 2 else(bif decide ((v.s.size:Int)>60)then 3 else(bif(!gv v.s (⟨#[]⟩)&&(v.kind != 4))then 4 else 0)))else 7)
def x4(v:dH):Int:=
 (bif(((v.kind==0)||(v.kind==4))||((v.kind==1)||((v.kind==2)||(v.kind==3))))then(bif(decide (v.n<(bif(((v.kind==0)||(v.kind==4))||((v.kind==1)|| !(v.kind==2)))then 0 else -1099511627776))||decide (v.n>(bif((v.kind==0)||(v.kind==4))then 0 else(bif(v.kind==1)then 1 else(bif(v.kind==2)then 1099511627776 else 63)))))then 2 else(bif decide ((v.s.size:Int)>60)then 3 else(bif(!gv v.s (⟨#[]⟩)&&(v.kind != 4))then 4 else 0)))else 7)
def GO(r:Rd):dH:=(bif(((bk r).1==1)||(((bk r).1==2)||((bk r).1==3)))then(⟨(bk r).1,(bk ((bk r).2)).1,⟨#[]⟩⟩:dH)else(bif((bk r).1==4)then(⟨(bk r).1,0,(kq ((bk r).2) 60).1⟩:dH)else(⟨(bk r).1,0,⟨#[]⟩⟩:dH)))
def Ag(r:Rd):Rd:=(bif(((bk r).1==1)||(((bk r).1==2)||((bk r).1==3)))then((bk ((bk r).2)).2)else(bif((bk r).1==4)then((kq ((bk r).2) 60).2)else((bk r).2)))
def wc(r:Rd):Rd:=(bif(lW (GO r) != 0)then(lj (Ag r) 4)else(Ag r))
def oA(r:Rd):(dH × Rd):=
 (bif((cl (wc r)) != 0)then((⟨0,0,⟨#[]⟩⟩:dH),(wc r))else((GO r),(wc r)))
def bQ(r:bF):(Int):=
 (bif !r.made then 15 else r.bad)
def rI(r:bF)(oj:Nat)(qE:Int):Step (Int × bF) (Int):=
 match qE with
 |(pO)=>(bif decide (IntKind.i64.wrap (r.at_+(oj:Int))>=(r.s.size:Int))then .ret (0,(⟨r.s,r.at_,5,r.made⟩:bF))else(match(r.s.data.toList)[(IntKind.i64.wrap (r.at_+(oj:Int))).toNat]? with|some qF=>(bif((decide ((oj:Int)>0)&&((qF.toNat:Int)==0))||(((oj:Int)==9)&&decide ((qF.toNat:Int)>1)))then .ret (0,(⟨r.s,r.at_,4,r.made⟩:bF))else(bif decide ((qF.toNat:Int)<128)then .ret ((bif((ml .u64 pO (IntKind.u64.wrap ((IntKind.u64.wrap ((qF.toNat:Int).tmod 128))*2^(min (IntKind.i64.wrap (7*(oj:Int))).toNat 64)))).tmod 2==1)then IntKind.i64.wrap (-1-IntKind.i64.wrap ((ml .u64 pO (IntKind.u64.wrap ((IntKind.u64.wrap ((qF.toNat:Int).tmod 128))*2^(min (IntKind.i64.wrap (7*(oj:Int))).toNat 64)))).fdiv 2))else IntKind.i64.wrap ((ml .u64 pO (IntKind.u64.wrap ((IntKind.u64.wrap ((qF.toNat:Int).tmod 128))*2^(min (IntKind.i64.wrap (7*(oj:Int))).toNat 64)))).fdiv 2)),(⟨r.s,IntKind.i64.wrap (IntKind.i64.wrap (r.at_+(oj:Int))+1),r.bad,r.made⟩:bF))else .bJ (ml .u64 pO (IntKind.u64.wrap ((IntKind.u64.wrap ((qF.toNat:Int).tmod 128))*2^(min (IntKind.i64.wrap (7*(oj:Int))).toNat 64))))))|none=>.bJ qE))
def SN(r:bF)(qE:Int):(Int × bF)⊕(Int):=bI (rI r) 0 10 qE
def bL(r:bF):(Int × bF):=
 (bif((bQ r) != 0)then(0,r)else(match(SN r (0))with| .inl SM=>SM| .inr (pO)=>(0,r)))
def cW(r:bF)(n:Int):(Int × bF):=
 (bif((bQ ((bL r).2)) != 0)then(0,((bL r).2))else(bif decide ((bL r).1<0)then(0,(⟨((bL r).2).s,((bL r).2).at_,4,((bL r).2).made⟩:bF))else(bif decide ((bL r).1>(bif decide (n<0)then 0 else n))then(0,(⟨((bL r).2).s,((bL r).2).at_,3,((bL r).2).made⟩:bF))else((bL r).1,((bL r).2)))))
def lp(r:bF)(n:Int):(ByteArray × bF):=
 (bif((bQ ((cW r n).2)) != 0)then(⟨#[]⟩,((cW r n).2))else(bif decide ((cW r n).1>IntKind.i64.wrap ((((((cW r n).2).s).size:Nat):Int)-((cW r n).2).at_))then(⟨#[]⟩,(⟨((cW r n).2).s,((cW r n).2).at_,5,((cW r n).2).made⟩:bF))else((((cW r n).2).s).extract ((((cW r n).2).at_).toNat) ((((cW r n).2).at_+(cW r n).1).toNat),(⟨((cW r n).2).s,IntKind.i64.wrap (((cW r n).2).at_+(cW r n).1),((cW r n).2).bad,((cW r n).2).made⟩:bF))))
def pQ(r:bF):dH:=(bif((bL r).1==4)then(⟨(bL r).1,0,(lp ((bL r).2) 60).1⟩:dH)else(⟨(bL r).1,0,⟨#[]⟩⟩:dH))
def uG(r:bF):bF:=(bif((bL r).1==4)then((lp ((bL r).2) 60).2)else((bL r).2))
def qG(r:bF):bF:=(bif(decide ((pQ r).kind>=1)&&decide ((pQ r).kind<=3))then((bL (uG r)).2)else(uG r))
def x5(r:bF):dH:=(bif(decide ((pQ r).kind>=1)&&decide ((pQ r).kind<=3))then(⟨(pQ r).kind,(bL (uG r)).1,(pQ r).s⟩:dH)else(pQ r))
def kS(r:bF)(e:Int):(bF):=
 (bif((bQ r)==0)then(⟨r.s,r.at_,e,r.made⟩:bF)else r)
def uH(r:bF):bF:=(bif(((bQ (qG r))==0)&&(x4 (x5 r) != 0))then(kS (qG r) 4)else(qG r))
def td(r:bF):(dH × bF):=
 (bif((bQ (uH r)) != 0)then((⟨0,0,⟨#[]⟩⟩:dH),(uH r))else((x5 r),(uH r)))
def pN(r:bF):(Int):=
 (bif((bQ r) != 0)then(bQ r)else(bif decide (r.at_<(r.s.size:Int))then 23 else 0))
def kC(s:ByteArray):Rd:=(⟨s,0,true⟩:Rd)
def kT(s:ByteArray):bF:=(⟨s,0,0,true⟩:bF)
def cj(r:bF):Prop:=0<=r.at_/\r.at_<=(r.s.size:Int)/\r.s.size<=4611686018427387904
abbrev C3(s:ByteArray):Rd:=⟨s,0,true⟩
open Classical in
theorem zbB{a:Int}(h:(a != 0)=false):a=0:=by simpa using h
theorem zbC{a b:ByteArray}:gv a b=false↔a≠b:=by rw[I6];simp
theorem znf{α:Type}{p q:Prop}[Decidable p][Decidable q]{a b:α}(h:p↔q):(if p then a else b)=if q then a else b:=by
 by_cases ar:p
 ·rw[if_pos ar,if_pos (h.1 ar)]
 ·rw[if_neg ar,if_neg λaB=>ar (h.2 aB)]
theorem zbD{α:Type}{p q:Prop}[Decidable p][Decidable q]{a b:α}(h:p↔¬q):(if p then a else b)=if q then b else a:=by
 by_cases aB:q
 ·rw[if_pos aB,if_neg λar=>h.1 ar aB]
 ·rw[if_neg aB,if_pos (h.2 aB)]
theorem zbE(v:dH):lW v=x4 v:=by
 unfold lW x4 GN;simp only[cond_eq_ite]
 by_cases aP:v.kind=0
 ·simp[aP]
  apply zbD;omega
 by_cases aN:v.kind=4
 ·simp[aN]
  apply zbD;omega
 by_cases aa:v.kind=1
 ·simp[aa]
  apply znf;omega
 by_cases ae:v.kind=2
 ·simp[ae]
 by_cases aw:v.kind=3
 ·simp[aw]
 ·simp[aP,aa,ae,aw,aN]
end Go.aH
namespace Go.aH
open Go Go.aH Go.eT
def h4:Nat->Nat->List Nat
 |0,u=>[u]|f+1,u=>if u<128 then[u]else(u%128+128)::h4 f (u/ 128)
def gF(n:Int):Nat:=if 0<=n then(2*n).toNat else(-2*n-1).toNat
def rJ(u:Nat):Int:=if u%2=0 then((u/ 2:Nat):Int)else -1-((u/ 2:Nat):Int)
theorem Se(n:Int):rJ (gF n)=n:=by
 unfold gF rJ
 split<;>split<;>omega
theorem zng(u:Nat):gF (rJ u)=u:=by
 unfold gF rJ
 split<;>split<;>omega
def dS(n:Int):Prop:= -9223372036854775808<=n/\n<9223372036854775808
theorem pJ{n:Int}(h:dS n):gF n<18446744073709551616:=by
 unfold dS at h;unfold gF
 split<;>omega
theorem zbF{u:Nat}(h:u<18446744073709551616):dS (rJ u):=by
 unfold rJ dS
 split<;>omega
theorem x6(n:Int):IntKind.u64.wrap n=n%18446744073709551616:=by simp[IntKind.wrap,IntKind.bits,IntKind.signed]
theorem SO(a b:Nat)(ba:a<18446744073709551616)(af:b<18446744073709551616):jK .u64 (a:Int) (b:Int)=((a ^^^ b:Nat):Int):=u64_xor_nat a b ba af
theorem znh(a b:Nat)(ba:a<18446744073709551616)(af:b<18446744073709551616):ml .u64 (a:Int) (b:Int)=((a ||| b:Nat):Int):=u64_or_nat a b ba af
theorem zni(a b:Nat)(ba:a<18446744073709551616)(af:b<18446744073709551616):np .u64 (a:Int) (b:Int)=((a &&& b:Nat):Int):=u64_and_nat a b ba af
theorem znj(a b:Nat)(ba:a<256)(af:b<256):ml .u8 (a:Int) (b:Int)=((a ||| b:Nat):Int):=u8_or_nat a b ba af
theorem zbG(a b:Nat)(ba:a<256)(af:b<256):np .u8 (a:Int) (b:Int)=((a &&& b:Nat):Int):=u8_and_nat a b ba af
theorem zbH(a:Nat)(ba:a<18446744073709551616):a ^^^ 18446744073709551615=18446744073709551615-a:=by
 have h:(zUv 64 a ^^^ BitVec.allOnes 64)= ~~~(zUv 64 a):=by rw[BitVec.xor_allOnes]
 have ae:=congrArg BitVec.toNat h;rw[BitVec.toNat_not,BitVec.toNat_xor,BitVec.toNat_ofNat,BitVec.toNat_allOnes,zUu ba]at ae;exact ae
theorem zbI{n:Int}(h:dS n):jK .u64 (IntKind.u64.wrap (IntKind.u64.wrap n*2)) (IntKind.u64.wrap (n.fdiv 9223372036854775808))=((gF n:Nat):Int):=by
 obtain⟨aa,ae⟩:=h;rw[x6,x6,x6,zUt _ (by decide)]
 by_cases hn:0<=n
 ·have aE:n%18446744073709551616*2%18446744073709551616=((gF n:Nat):Int):=by unfold gF;rw[if_pos hn];omega
  have bc:n/ 9223372036854775808%18446744073709551616=((0:Nat):Int):=by omega
  rw[aE,bc,SO _ _ (pJ ⟨aa,ae⟩) (by decide),Nat.xor_zero]
 ·have aE:n%18446744073709551616*2%18446744073709551616=((18446744073709551615-gF n:Nat):Int):=by unfold gF;rw[if_neg hn];omega
  have bc:n/ 9223372036854775808%18446744073709551616=((18446744073709551615:Nat):Int):=by omega
  have aW:=pJ ⟨aa,ae⟩;rw[aE,bc,SO _ _ (by omega) (by decide),zbH _ (by omega)]
  omega
theorem zbJ{n:Int}(h:dS n):(bif decide (n<0)then jK .u64 18446744073709551615 (IntKind.u64.wrap (IntKind.u64.wrap n*2))else IntKind.u64.wrap (IntKind.u64.wrap n*2))=((gF n:Nat):Int):=by
 obtain⟨aa,ae⟩:=h;rw[x6,x6]
 by_cases hn:0<=n
 ·have hQ:decide (n<0)=false:=decide_eq_false (by omega)
  rw[hQ];show n%18446744073709551616*2%18446744073709551616=((gF n:Nat):Int);unfold gF;rw[if_pos hn];omega
 ·have hQ:decide (n<0)=true:=decide_eq_true (by omega)
  have aE:n%18446744073709551616*2%18446744073709551616=((18446744073709551615-gF n:Nat):Int):=by unfold gF;rw[if_neg hn];omega
  have aW:=pJ ⟨aa,ae⟩;rw[hQ,cond_true,aE,show(18446744073709551615:Int)=((18446744073709551615:Nat):Int)from rfl,SO _ _ (by decide) (by omega),Nat.xor_comm,zbH _ (by omega)]
  omega
theorem znk: ∀a,a<256->a ||| 128=a%128+128:=by decide+kernel
theorem zbK(u:Nat):ml .u8 (IntKind.u8.wrap (u:Int)) 128=((u%128+128:Nat):Int):=by
 have e:IntKind.u8.wrap (u:Int)=((u%256:Nat):Int):=by rw[IntKind.wrap_u8'];omega
 rw[e,show(128:Int)=((128:Nat):Int)from rfl,znj _ _ (by omega) (by decide),znk _ (by omega)]
 omega
theorem znl(u:Nat):IntKind.u8.wrap (IntKind.u8.wrap ((u:Int).tmod 128)+128)=((u%128+128:Nat):Int):=by
 rw[zUs (by omega),IntKind.wrap_u8',IntKind.wrap_u8']
 omega
theorem zbL{R A:Type}{b:A->Step R A}{f:Nat}{x y:A}(h:b x= .c4 y):dk b (f+1) x= .inr y:=by
 unfold dk;rw[h]
theorem zbM{R A:Type}{b:A->Step R A}{f:Nat}{x y:A}(h:b x= .bJ y):dk b (f+1) x=dk b f y:=by
 conv=>lhs;unfold dk
 rw[h]
theorem zbN(n:Int): ∀(f u:Nat) (acc:List Int),u<128*128^f->∃(x:Nat) (l:List Int),dk (C1 n) (f+1) ((u:Int),acc)= .inr ((x:Int),acc++l)/\(h4 f u).map (λb:Nat=>(b:Int))=l++[(x:Int)]/\x<128
 |f,u,acc,h=>by
  by_cases hu:u<128
  ·have af:C1 n ((u:Int),acc)= .c4 ((u:Int),acc):=by
    unfold C1;dsimp only;rw[show decide ((u:Int)>=128)=false from decide_eq_false (by omega)]
    rfl
   refine⟨u,[],by rw[zbL af,zV3],?_,hu⟩
   cases f with
   |zero=>rfl|succ f=>unfold h4;rw[if_pos hu];rfl
  ·have af:C1 n ((u:Int),acc)= .bJ (((u/ 128:Nat):Int),acc++[((u%128+128:Nat):Int)]):=by
    unfold C1;dsimp only;rw[show decide ((u:Int)>=128)=true from decide_eq_true (by omega),cond_true]
    rw[zbK,zUt _ (by decide),show(u:Int)/ 128=((u/ 128:Nat):Int)by omega]
   cases f with
   |zero=>exact absurd h (by simpa using hu)|succ f=>
    have ae:u/ 128<128*128^f:=by
     rw[zUr]at h;omega
    obtain⟨x,l,aE,bc,cJ⟩:=zbN n f (u/ 128) (acc++[((u%128+128:Nat):Int)]) ae;refine⟨x,((u%128+128:Nat):Int)::l,?_,?_,cJ⟩
    ·rw[zbM af,aE,zVt,zUq]
    ·unfold h4
     rw[if_neg hu,zXq,bc,zVl]
def jw(u:Nat):ByteArray:=bytesOf ((h4 9 u).map λb:Nat=>(b:Int))
theorem SP{n:Int}(h:dS n):LD n=jw (gF n):=by
 obtain⟨x,l,aE,bc,cJ⟩:=zbN n 9 (gF n) [] (zZw (pJ h) (by decide))
 unfold LD SL jw;rw[zbI h];unfold Xw;rw[aE,bc];show bytesOf (([]++l)++[IntKind.u8.wrap (x:Int)])=_;rw[List.nil_append,IntKind.wrap_u8',show(x:Int)%256=(x:Int)by omega]
theorem zbO: ∀(l:List Int) (s:ByteArray),(l.foldl (λr n=>r.push (zUp n.toNat)) s).data.toList=s.data.toList++l.map λn=>zUp n.toNat
 |[],s=>by simp|n::l,s=>by
  rw[List.foldl_cons,zbO l,zUo,Array.toList_push,zXq,zVt,zUq]
theorem Ah(l:List Int):(bytesOf l).data.toList=l.map λn=>zUp n.toNat:=by
 unfold bytesOf;rw[zbO];rfl
theorem zbP(l:List Int):(bytesOf l).size=l.length:=by
 have h:=congrArg zZ5 (Ah l);rw[zXe,Array.length_toList]at h;exact h
theorem uI{a b:ByteArray}(h:a.data.toList=b.data.toList):a=b:=zUn (Array.toList_inj.1 h)
def te(l:List Nat):List UInt8:=l.map zUp
theorem zbQ(u:Nat):(jw u).data.toList=te (h4 9 u):=by
 unfold jw te;rw[Ah,zWq];rfl
theorem zbR(f u:Nat):0<(h4 f u).length:=by
 cases f with
 |zero=>exact zV5|succ f=>
  unfold h4
  split
  ·exact zV5
  ·simp
theorem znm(f u:Nat):(h4 f u).length<=f+1:=by
 induction f generalizing u with
 |zero=>exact zZv _|succ f bb=>
  unfold h4
  split
  ·simp
  ·have:=bb (u/ 128)
   simp only[zVi];omega
theorem GQ(u:Nat):(jw u).size=(h4 9 u).length:=by
 unfold jw;rw[zbP,zXe]
theorem SQ(k:Nat):128^k=2^(7*k):=by rw[Nat.pow_mul]
theorem zbS{k acc c:Nat}(an:k<=9)(hc:c<256)(ba:acc<128^k)(hd:c%128*128^k<18446744073709551616):
 ml .u64 (acc:Int) (IntKind.u64.wrap ((IntKind.u64.wrap (np .u8 (c:Int) 127))*2^(min (IntKind.i64.wrap (7*(k:Int))).toNat 64)))=((acc+c%128*128^k:Nat):Int):=by
 have aE:np .u8 (c:Int) 127=((c%128:Nat):Int):=by
  rw[show(127:Int)=((127:Nat):Int)from rfl,zbG _ _ hc (by decide),nat_mask7]
 have bc:min (IntKind.i64.wrap (7*(k:Int))).toNat 64=7*k:=by
  rw[iz _ (by omega) (by omega)]
  omega
 have cJ:IntKind.u64.wrap ((c%128:Nat):Int)=((c%128:Nat):Int):=by rw[x6];omega
 have ek:(((c%128:Nat):Int)*2^(7*k))=((c%128*128^k:Nat):Int):=by
  rw[SQ];push_cast;rfl
 have ar:128^k<=128^9:=zUm (by decide) an
 rw[aE,bc,cJ,ek,x6];have j0:((c%128*128^k:Nat):Int)%18446744073709551616=((c%128*128^k:Nat):Int):=by omega
 rw[j0,znh _ _ (by(have:(128:Nat)^9=9223372036854775808:=(by decide));omega) hd]
 rw[Nat.or_comm,nat_join (7*k) _ _ (by rw[SQ];exact Nat.mul_mod_left _ _) (by rw[<-SQ];exact ba),Nat.add_comm]
theorem SR(e:UInt8):e.toNat<256:=e.toNat_lt
theorem LF{s:ByteArray}{k:Nat}{e:UInt8}{acc:Nat}(he:s.data.toList[k]? =some e)(an:k<=9)(ba:acc<128^k):uF s k (acc:Int)=
 if(0<k/\e.toNat=0)\/(k=9/\1<e.toNat)then .ret (0,0,4)else if e.toNat<128 then .ret (((acc+e.toNat%128*128^k:Nat):Int),((k+1:Nat):Int),0)else .bJ ((acc+e.toNat%128*128^k:Nat):Int):=by
 have hu:=SR e;unfold uF;dsimp only;rw[he];dsimp only;rw[cond_eq_ite]
 by_cases aa:(0<k/\e.toNat=0)\/(k=9/\1<e.toNat)
 ·rw[if_pos aa,if_pos]
  simp only[zZg,zZr,decide_eq_true_eq,beq_iff_eq];omega
 ·have hd:e.toNat%128*128^k<18446744073709551616:=by
   rcases zYm k 9 with iO|iO
   ·have ar:128^k<=128^8:=zUm (by decide) (by omega)
    have:e.toNat%128*128^k<=127*128^8:=zUl (by omega) ar
    exact zUk this (by decide)
   ·have Ai:k=9:=by omega
    subst Ai;have:e.toNat%128*128^9<=1*128^9:=zUl (by omega) (zZv _)
    exact zUk this (by decide)
  rw[if_neg aa,if_neg (by
   simp only[zZg,zZr,decide_eq_true_eq,beq_iff_eq]
   omega),zbS an hu ba hd,cond_eq_ite]
  by_cases ae:e.toNat<128
  ·rw[if_pos ae,if_pos (by rw[decide_eq_true_eq];omega)]
  ·rw[if_neg ae,if_neg (by rw[decide_eq_true_eq];omega)]
theorem zbT{s:ByteArray}: ∀(f k acc u:Nat) (t:List UInt8) (m:Nat),k+f=9->s.data.toList.drop k=te (h4 f u)++t->acc<128^k->u<128*128^f->acc+u*128^k<18446744073709551616->(0<k->0<u)->(h4 f u).length<=m->
 bI (uF s) k m (acc:Int)= .inl (((acc+u*128^k:Nat):Int),((k+(h4 f u).length:Nat):Int),0)
 |f,k,acc,u,t,m,k8,au,ba,hu,we,aP,hm=>by
  cases m with
  |zero=>have:=zbR f u;omega
  |succ m=>
   have ar:0<128^k:=zUj (by decide)
   unfold bI
   by_cases GR:u<128
   ·have az:h4 f u=[u]:=by
     cases f with
     |zero=>rfl|succ f=>unfold h4;rw[if_pos GR]
    rw[az]at au⊢
    have he:s.data.toList[k]? =some (zUp u):=by
     have:=congrArg (λl=>l[0]?) au;simpa[te]using this
    have af:=LF he (by omega) ba
    have hn:(zUp u).toNat=u:=by simp[zUi];omega
    rw[hn]at af
    have iO:k=9->u<=1:=by
     intro Ai;subst Ai;have ta:(128:Nat)^9=9223372036854775808:=by decide
     rw[ta]at we;omega
    rw[if_neg (by omega),if_pos GR,zUu GR]at af
    rw[af];rfl
   ·cases f with
    |zero=>exact absurd (by simpa using hu) GR|succ f=>
     have az:h4 (f+1) u=(u%128+128)::h4 f (u/ 128):=by
      conv=>lhs;unfold h4
      rw[if_neg GR]
     rw[az]at au hm⊢
     have he:s.data.toList[k]? =some (zUp (u%128+128)):=by
      have:=congrArg (λl=>l[0]?) au;simpa[te]using this
     have af:=LF he (by omega) ba
     have hn:(zUp (u%128+128)).toNat=u%128+128:=by simp[zUi];omega
     rw[hn,if_neg (by omega),if_neg (by omega),show(u%128+128)%128=u%128 by omega]at af
     rw[af]
     have hd:s.data.toList.drop (k+1)=te (h4 f (u/ 128))++t:=by
      have:=congrArg (zUh 1) au;rw[zW5]at this;simpa[te]using this
     have LG:128^(k+1)=128*128^k:=by rw[zUr,zXn]
     have xS:acc+u%128*128^k+u/ 128*128^(k+1)=acc+u*128^k:=by
      rw[LG];have:u/ 128*(128*128^k)=(u/ 128*128)*128^k:=by rw[zUg]
      rw[this,zYw,<-zXv]
      congr 2
      omega
     have zv:acc+u%128*128^k<128^(k+1):=by
      have:u%128*128^k<=127*128^k:=zUl (by omega) (zZv _)
      omega
     have:=zbT f (k+1) (acc+u%128*128^k) (u/ 128) t m (by omega) hd zv (by rw[zUr]at hu;omega) (by rw[xS];exact we) (λ_=>by omega) (by simp only[zVi]at hm;omega)
     dsimp only;rw[this,xS,zVi]
     congr 3
     congr 1
     omega
theorem zbU{s:ByteArray}: ∀(m k acc:Nat) (U N:Int),k+m=s.size->acc<128^k->k<=9->bI (uF s) k m (acc:Int)= .inl (U,N,0)->
 ∃(u:Nat) (t:List UInt8),U=((acc+u*128^k:Nat):Int)/\s.data.toList.drop k=te (h4 (9-k) u)++t/\N=((k+(h4 (9-k) u).length:Nat):Int)/\(0<k->0<u)/\acc+u*128^k<18446744073709551616
 |0,k,acc,U,N,_,_,_,h=>by simp[bI]at h|m+1,k,acc,U,N,ao,ba,an,h=>by
  have bR:k<s.data.toList.length:=by
   have:s.data.toList.length=s.size:=rfl;omega
  obtain⟨e,he⟩: ∃e,s.data.toList[k]? =some e:=⟨_,zZa bR⟩
  have zbV:s.data.toList.drop k=e::s.data.toList.drop (k+1):=by
   rw[List.drop_eq_getElem_cons bR]
   congr 1
   rw[zZa bR]at he;exact Option.some.inj he
  have zph:=SR e;have LG:128^(k+1)=128*128^k:=by rw[zUr,zXn]
  have zpi:128^k<=128^9:=zUm (by decide) an
  have ta:(128:Nat)^9=9223372036854775808:=by decide
  unfold bI at h;rw[LF he an ba]at h
  split at h
  ·rename_i r ah
   split at ah
   ·cases ah;cases h
   ·rename_i aB
    split at ah
    ·rename_i hc
     cases ah;simp only[Sum.inl.injEq,Prod.mk.injEq]at h;obtain⟨rfl,rfl,_⟩:=h
     have az:h4 (9-k) e.toNat=[e.toNat]:=by
      rcases zYm k 9 with iO|iO
      ·obtain⟨f,hf⟩: ∃f,9-k=f+1:=⟨8-k,by omega⟩
       rw[hf];unfold h4;rw[if_pos hc]
      ·rw[show 9-k=0 by omega];rfl
     have we:acc+e.toNat*128^k<18446744073709551616:=by
      rcases zYm k 9 with iO|iO
      ·have ar:128^k<=128^8:=zUm (by decide) (by omega)
       have ae:e.toNat*128^k<=127*128^8:=zUl (by omega) ar
       have GD:127*(128:Nat)^8=9151314442816847872:=by decide
       omega
      ·have Ai:k=9:=by omega
       subst Ai;have:e.toNat*128^9<=1*128^9:=zUl (by omega) (zZv _)
       omega
     refine⟨e.toNat,s.data.toList.drop (k+1),by rw[zUu hc],?_,by rw[az];rfl,λaP=>by omega,we⟩
     rw[az,zbV];simp[te]
    ·cases ah
  ·rename_i a ah
   split at ah
   ·cases ah
   ·split at ah<;>cases ah
  ·rename_i a ah
   split at ah
   ·cases ah
   ·rename_i aB
    split at ah
    ·cases ah
    ·rename_i hc
     cases ah
     have zbW:k<=8:=by
      rcases zYm k 9 with iO|iO
      ·omega
      ·exact absurd (Or.inr ⟨by omega,by omega⟩) aB
     have zv:acc+e.toNat%128*128^k<128^(k+1):=by
      have:e.toNat%128*128^k<=127*128^k:=zUl (by omega) (zZv _)
      omega
     obtain⟨u,t,aa,ae,aw,aN,bx⟩:=zbU m (k+1) (acc+e.toNat%128*128^k) U N (by omega) zv (by omega) h
     have zpj:=aN (by omega)
     have xS:acc+e.toNat%128*128^k+u*128^(k+1)=acc+(e.toNat%128+u*128)*128^k:=by
      rw[LG,zXv,zYw,zUg]
     have az:h4 (9-k) (e.toNat%128+u*128)=e.toNat::h4 (9-(k+1)) u:=by
      rw[show 9-k=(9-(k+1))+1 by omega]
      conv=>lhs;unfold h4
      rw[if_neg (by omega)]
      congr 1
      ·omega
      ·congr 1
       omega
     refine⟨e.toNat%128+u*128,t,by rw[aa,xS],?_,?_,λ_=>by omega,by rw[<-xS];exact bx⟩
     ·rw[az,zbV,ae]
      simp[te]
     ·rw[az,aw,zVi]
      congr 1
      omega
theorem Sd{u:Nat}(h:u<18446744073709551616)(t:ByteArray):kU (jw u++t)=((u:Int),(((jw u).size:Nat):Int),0):=by
 have au:(jw u++t).data.toList.drop 0=te (h4 9 u)++t.data.toList:=by
  rw[zWf,zUf,zVw,zbQ]
 have hm:(h4 9 u).length<=(jw u++t).size:=by
  rw[zV6,GQ];omega
 have:=zbT 9 0 0 u t.data.toList (jw u++t).size rfl au (by decide) (zZw h (by decide)) (by omega) (λaP=>absurd aP (by decide)) hm
 unfold kU C2;rw[show(0:Int)=((0:Nat):Int)from rfl,this,GQ]
 simp
theorem SS{s:ByteArray}{U N:Int}(h:kU s=(U,N,0)): ∃(u:Nat) (t:ByteArray),U=(u:Int)/\s=jw u++t/\N=(((jw u).size:Nat):Int)/\u<18446744073709551616:=by
 unfold kU at h
 split at h
 ·rename_i r ah
  subst h;unfold C2 at ah;obtain⟨u,t,aa,ae,aw,_,bx⟩:=zbU s.size 0 0 U N (by omega) (by decide) (by decide) ah
  refine⟨u,⟨t.toArray⟩,by rw[aa];simp,uI ?_,by rw[aw,GQ];simp,by omega⟩
  rw[zUf,zVw,zbQ];simpa using ae
 ·simp at h
theorem znn(k:IntKind)(a b:Int):jK k a b=jK k b a:=by
 unfold jK;rw[BitVec.xor_comm]
theorem zno(a:Nat)(h:a<9223372036854775808):jK .i64 (a:Int) 0=(a:Int):=by
 unfold jK;have e:zWv IntKind.i64.bits (0:Int)=0#_:=rfl;rw[e,BitVec.xor_zero];have:(zWv 64 (a:Int)).toNat=a:=ofInt_u64 a (by omega)
 show IntKind.i64.wrap (((zWv 64 (a:Int)).toNat:Nat):Int)=_;rw[this,iz _ (by omega) (by omega)]
theorem znp(a:Nat)(h:a<9223372036854775808):jK .i64 (a:Int) (-1)= -1-(a:Int):=by
 rw[znn];exact i64_not a h
theorem SU{u:Nat}(h:u<18446744073709551616):jK .i64 (IntKind.i64.wrap ((u:Int).fdiv 2)) (IntKind.i64.wrap (0-IntKind.i64.wrap (np .u64 (u:Int) 1)))=rJ u:=by
 have aE:IntKind.i64.wrap ((u:Int).fdiv 2)=((u/ 2:Nat):Int):=by
  rw[zUt _ (by decide),iz _ (by omega) (by omega)]
  omega
 have bc:np .u64 (u:Int) 1=((u%2:Nat):Int):=by
  rw[show(1:Int)=((1:Nat):Int)from rfl,zni _ _ h (by decide),nat_mask1]
 rw[aE,bc];unfold rJ
 split
 ·rename_i aP
  rw[aP];exact zno _ (by omega)
 ·rename_i aP
  rw[show u%2=1 by omega]
  exact znp _ (by omega)
theorem zbX(a t:ByteArray):(a++t).extract a.size (a++t).size=t:=by
 refine uI ?_;rw[zUe,zUd,zUf,zVw,zV6];have ba:a.size=a.data.toList.length:=rfl;have aJ:t.size=t.data.toList.length:=rfl;rw[ba,aJ];simp[zUc];exact zYd (zZv _)
structure znq {α:Type} (read:Rd->α × Rd) (write:α->ByteArray) (ok:α->Prop):Prop where
 enc: ∀(a:α) (t:ByteArray),ok a->read (C3 (write a++t))=(a,C3 t)
 dec: ∀(r:Rd),cl (read r).2=0->∃(a:α) (t:ByteArray),r=C3 (write a++t)/\ok a/\read r=(a,C3 t)
theorem zbY{r:Rd}(h:cl r=0):r=C3 r.rest:=by
 obtain⟨s,e,m⟩:=r;unfold cl at h
 cases m with
 |false=>cases h
 |true=>simp at h;rw[h]
theorem zbZ(s:ByteArray):cl (C3 s)=0:=rfl
theorem C4{r:Rd}(h:cl r≠0):bk r=(0,r):=by
 unfold bk;rw[show(cl r != 0)=true by simpa using h]
 rfl
theorem znr:znq bk LD dS:=by
 refine⟨λn t hn=>?_,λr h=>?_⟩
 ·rw[SP hn]
  unfold bk;rw[zbZ]
  try dsimp only
  rw[Sd (pJ hn)]
  try dsimp only
  rw[SU (pJ hn),Se,zW8,zbX];rfl
 ·by_cases aP:cl r=0
  ·rw[zbY aP]at h⊢
   generalize r.rest=s at*;unfold bk at h⊢;rw[zbZ]at h⊢
   try dsimp only at h⊢
   rcases az:kU s with⟨U,N,E⟩
   rw[az]at h
   try dsimp only at h⊢
   by_cases hR:E=0
   ·subst hR
    obtain⟨u,t,rfl,rfl,rfl,hu⟩:=SS az;refine⟨rJ u,t,by rw[SP (zbF hu),zng],zbF hu,?_⟩
    rw[SU hu,zW8,zbX];rfl
   ·rw[show(E != 0)=true by simpa using hR]at h
    have:cl (⟨s,E,true⟩:Rd)=0:=h;exact absurd this hR
  ·rw[C4 aP]at h
   exact absurd h aP
theorem SV{r:Rd}(n:Int)(h:cl r≠0):cL r n=(0,r):=by
 unfold cL;rw[C4 h,show(cl r != 0)=true by simpa using h]
 rfl
theorem zns{r:Rd}(n:Int)(h:cl r≠0):kq r n=(⟨#[]⟩,r):=by
 unfold kq;rw[SV n h,show(cl r != 0)=true by simpa using h]
 rfl
end Go.aH
namespace Go.aH
open Go Go.aH Go.eT
theorem zb0{v:dH}(h:lW v=0):v.s.size<=60:=by
 unfold lW at h;simp only[cond_eq_ite]at h
 repeat' split at h
 all_goals first
  |(cases h;done)
  |(rename_i aB _;simp at aB;omega)
  |(rename_i aB;simp at aB;omega)
theorem CS{a b:ByteArray}:gv a b=true↔a=b:=by rw[I6];simp
theorem zb1{v:dH}(h:lW v=0):(v.kind=0/\v.n=0/\v.s=⟨#[]⟩)\/((v.kind=1\/v.kind=2\/v.kind=3)/\v.s=⟨#[]⟩/\ -1099511627776<=v.n/\v.n<=1099511627776)\/(v.kind=4/\v.n=0/\v.s.size<=60):=by
 have b4:=zb0 h;unfold lW at h
 cases ej:(((v.kind==0)||(v.kind==4))||((v.kind==1)||((v.kind==2)||(v.kind==3))))with
 |false=>rw[ej]at h;cases h
 |true=>
  rw[ej]at h
  cases gO:(bif((v.kind==0)||(v.kind==4))then(v.n==0)else(bif(v.kind==1)then((v.n==0)||(v.n==1))else(bif(v.kind==2)then GN v.n else(decide (v.n>=0)&&decide (v.n<=63)))))with
  |false=>rw[gO]at h;cases h
  |true=>
   rw[gO]at h;simp only[cond_true,Bool.not_true,cond_false]at h;simp only[cond_eq_ite]at h
   split at h
   ·cases h
   ·split at h
    ·cases h
    ·rename_i aw
     have ao:v.kind≠4->v.s=⟨#[]⟩:=λan=>by
      simp only[zZr,bne_iff_ne,ne_eq,not_and,Decidable.not_not,Bool.not_eq_true']at aw
      cases aB:gv v.s ⟨#[]⟩with
      |true=>exact CS.1 aB|false=>exact absurd (aw aB) an
     simp only[zZg,beq_iff_eq]at ej
     rcases ej with (aP|aN)|aa|ae|aw
     ·exact .inl ⟨aP,by simpa[aP]using gO,ao (by omega)⟩
     ·exact .inr (.inr ⟨aN,by simpa[aN]using gO,b4⟩)
     ·refine .inr (.inl ⟨.inl aa,ao (by omega),?_⟩)
      simp[aa]at gO;omega
     ·refine .inr (.inl ⟨.inr (.inl ae),ao (by omega),?_⟩)
      simp[ae,GN]at gO;omega
     ·refine .inr (.inl ⟨.inr (.inr aw),ao (by omega),?_⟩)
      simp[aw]at gO;omega
def lX(r:Rd):dH × Rd:=
 if(bk r).1=1\/(bk r).1=2\/(bk r).1=3 then(⟨(bk r).1,(bk (bk r).2).1,⟨#[]⟩⟩,(bk (bk r).2).2)
 else if(bk r).1=4 then(⟨(bk r).1,0,(kq (bk r).2 60).1⟩,(kq (bk r).2 60).2)else(⟨(bk r).1,0,⟨#[]⟩⟩,(bk r).2)
theorem GU(r:Rd):GO r=(lX r).1/\Ag r=(lX r).2:=by
 unfold GO Ag lX;simp only[cond_eq_ite,zZg,beq_iff_eq]
 split
 ·exact⟨rfl,rfl⟩
 ·split<;>exact⟨rfl,rfl⟩
theorem znt(r:Rd):oA r=if lW (lX r).1=0 then(if cl (lX r).2=0 then lX r else(⟨0,0,⟨#[]⟩⟩,(lX r).2))else(⟨0,0,⟨#[]⟩⟩,lj (lX r).2 4):=by
 have hf: ∀r:Rd,cl (lj r 4)≠0:=by
  intro r h;unfold lj at h
  by_cases aP:cl r=0
  ·rw[show(cl r==0)=true by simpa using aP]at h
   rw[zbY aP]at h;cases h
  ·rw[show(cl r==0)=false by simpa using aP]at h
   exact aP h
 unfold oA wc;rw[(GU r).1,(GU r).2]
 by_cases aa:lW (lX r).1=0
 ·rw[if_pos aa,show(lW (lX r).1 != 0)=false by simpa using aa,cond_false]
  by_cases ae:cl (lX r).2=0
  ·rw[if_pos ae,show(cl (lX r).2 != 0)=false by simpa using ae]
   rfl
  ·rw[if_neg ae,show(cl (lX r).2 != 0)=true by simpa using ae]
   rfl
 ·rw[if_neg aa,show(lW (lX r).1 != 0)=true by simpa using aa,cond_true,show(cl (lj (lX r).2 4) != 0)=true by simpa using hf _]
  rfl
theorem znu{r:Rd}(h:cl r≠0):oA r=(⟨0,0,⟨#[]⟩⟩,r):=by
 have aJ:lX r=(⟨0,0,⟨#[]⟩⟩,r):=by
  unfold lX;rw[C4 h];rfl
 rw[znt,aJ];have:lW (⟨0,0,⟨#[]⟩⟩:dH)=0:=by decide
 rw[if_pos this,if_neg h]
end Go.aH
namespace Go.aH
open Go Go.aH Go.eT
theorem eS{r:bF}(h:cj r):cj (bL r).2:=by
 unfold bL
 cases (bQ r != 0)with
 |true=>exact h|false=>
  simp only[cond_false]
  split
  ·rename_i q aB
   have key: ∀(m k:Nat) (a:Int) (q:Int × bF),k+m<=10->bI (rI r) k m a= .inl q->cj q.2:=by
    intro m
    induction m with
    |zero=>intro k a r _ h;simp[bI]at h|succ m bb=>
     intro k a q an au;unfold bI at au
     split at au
     ·rename_i jA af
      simp only[Sum.inl.injEq]at au;subst au;obtain⟨aa,ae,aw⟩:=h;unfold rI at af;simp only[cond_eq_ite,decide_eq_true_eq]at af;have bA:IntKind.i64.wrap (r.at_+(k:Int))=r.at_+(k:Int):=iz _ (by omega) (by omega)
      rw[bA]at af
      split at af
      ·cases af;exact⟨aa,ae,aw⟩
      ·rename_i bR
       have ec:IntKind.i64.wrap (r.at_+(k:Int)+1)=r.at_+(k:Int)+1:=iz _ (by omega) (by omega)
       rw[ec]at af
       split at af
       ·split at af
        ·cases af;exact⟨aa,ae,aw⟩
        ·split at af
         ·cases af;exact⟨by first|omega|(dsimp only;omega),by first|omega|(dsimp only;omega),aw⟩
         ·cases af
       ·cases af
     ·cases au
     ·exact bb _ _ _ (by omega) au
   exact key _ _ _ _ (by omega) aB
  ·exact h
theorem C5(r:bF)(n:Int):0<=(cW r n).1:=by
 unfold cW
 cases ej:(bQ ((bL r).2) != 0)with
 |true=>exact zW1 _|false=>
  simp only[cond_false]
  cases gO:decide ((bL r).1<0)with
  |true=>exact zW1 _|false=>
   have gO:=of_decide_eq_false gO;simp only[cond_false,cond_eq_ite]
   repeat' split
   all_goals first|exact zW1 _|omega|(dsimp only;omega)
theorem znv(r:bF)(n:Int)(hn:0<=n):(cW r n).1<=n:=by
 unfold cW;simp only[cond_eq_ite,decide_eq_true_eq]
 repeat' split
 all_goals first|exact hn|omega|(dsimp only;omega)
theorem rG{r:bF}{n:Int}(h:cj r):cj (cW r n).2:=by
 have h:=eS h;unfold cW;simp only[cond_eq_ite]
 repeat' split
 all_goals exact h
theorem jz{r:bF}{n:Int}(h:cj r):cj (lp r n).2:=by
 have h:=rG (n:=n) h;have hn:=C5 r n;unfold lp;generalize hc:cW r n=c at*;obtain⟨aa,ae,aw⟩:=h;have bA:IntKind.i64.wrap ((c.2.s.size:Int)-c.2.at_)=(c.2.s.size:Int)-c.2.at_:=iz _ (by omega) (by omega)
 rw[bA];simp only[cond_eq_ite,decide_eq_true_eq]
 repeat' split
 ·exact⟨aa,ae,aw⟩
 ·exact⟨aa,ae,aw⟩
 ·have ec:IntKind.i64.wrap (c.2.at_+c.1)=c.2.at_+c.1:=iz _ (by omega) (by omega)
  rw[ec];exact⟨by first|omega|(dsimp only;omega),by first|omega|(dsimp only;omega),aw⟩
theorem znw{r:bF}(h:cj r):cj (uG r):=by
 unfold uG
 cases ((bL r).1==4)with
 |true=>exact jz (eS h)|false=>exact eS h
theorem CY{r:bF}{e:Int}(h:cj r):cj (kS r e):=by
 unfold kS;simp only[cond_eq_ite]
 split<;>exact h
theorem SW{r:bF}(h:cj r):cj (td r).2:=by
 have ae:=znw h
 have aN:cj (qG r):=by
  unfold qG;simp only[cond_eq_ite]
  split
  ·exact eS ae
  ·exact ae
 have bx:cj (uH r):=by
  unfold uH;simp only[cond_eq_ite]
  split
  ·exact CY aN
  ·exact aN
 unfold td;simp only[cond_eq_ite]
 split<;>exact bx
theorem Aj(s:ByteArray)(n:Nat):(s.extract n s.size).data.toList=s.data.toList.drop n:=by
 rw[zUe,zUd];have ao:s.size=s.data.toList.length:=rfl;rw[ao];simp[zUc];rw[zYd (l:=zUh n s.data.toList) (by rw[List.length_drop];exact zZv _)]
theorem SX(s:ByteArray)(n j:Nat):(s.extract n s.size).extract j (s.extract n s.size).size=s.extract (n+j) s.size:=uI (by
 rw[Aj,Aj,Aj,zW5])
def jy(r:Rd)(q:bF):Prop:=cj q/\r=⟨q.s.extract q.at_.toNat q.s.size,q.bad,q.made⟩
theorem j6{r:Rd}{q:bF}(h:jy r q):cl r=bQ q:=by
 rw[h.2];rfl
theorem znx{q:bF}(av:cj q){k acc:Nat}(an:k<=9)(ba:acc<128^k){e:UInt8}(he:(q.s.extract q.at_.toNat q.s.size).data.toList[k]? =some e):rI q k (acc:Int)=
 if(0<k/\e.toNat=0)\/(k=9/\1<e.toNat)then .ret (0,⟨q.s,q.at_,4,q.made⟩)else if e.toNat<128 then .ret (rJ (acc+e.toNat%128*128^k),⟨q.s,q.at_+((k+1:Nat):Int),q.bad,q.made⟩)else .bJ ((acc+e.toNat%128*128^k:Nat):Int):=by
 obtain⟨aa,ae,aw⟩:=av;have hu:=SR e;rw[Aj,List.getElem?_drop]at he;have bR:q.at_.toNat+k<q.s.size:=(List.getElem?_eq_some_iff.1 he).1;have bA:IntKind.i64.wrap (q.at_+(k:Int))=q.at_+(k:Int):=iz _ (by omega) (by omega)
 have ec:IntKind.i64.wrap (q.at_+(k:Int)+1)=q.at_+((k+1:Nat):Int):=by rw[iz _ (by omega) (by omega)];omega
 have mI:(q.at_+(k:Int)).toNat=q.at_.toNat+k:=by omega
 unfold rI;dsimp only;rw[bA,decide_eq_false (show ¬q.at_+(k:Int)>=(q.s.size:Int)by omega),cond_false,mI,he]
 dsimp only;rw[ec]
 have zny:(e.toNat:Int).tmod 128=np .u8 (e.toNat:Int) 127:=by
  rw[show(127:Int)=((127:Nat):Int)from rfl,zbG _ _ hu (by decide),nat_mask7,zUs (by omega)]
  omega
 rw[zny,cond_eq_ite]
 by_cases aa:(0<k/\e.toNat=0)\/(k=9/\1<e.toNat)
 ·rw[if_pos aa,if_pos]
  simp only[zZg,zZr,decide_eq_true_eq,beq_iff_eq];omega
 ·have hd:e.toNat%128*128^k<9223372036854775808*2/\acc+e.toNat%128*128^k<18446744073709551616:=by
   rcases zYm k 9 with iO|iO
   ·have ar:128^k<=128^8:=zUm (by decide) (by omega)
    have:e.toNat%128*128^k<=127*128^8:=zUl (by omega) ar
    have GD:(128:Nat)^8=72057594037927936:=by decide
    omega
   ·have Ai:k=9:=by omega
    subst Ai;have:e.toNat%128*128^9<=1*128^9:=zUl (by omega) (zZv _)
    have ta:(128:Nat)^9=9223372036854775808:=by decide
    omega
  rw[if_neg aa,if_neg (by
   simp only[zZg,zZr,decide_eq_true_eq,beq_iff_eq]
   omega),zbS an hu ba (by omega),cond_eq_ite]
  by_cases ae:e.toNat<128
  ·rw[if_pos ae,if_pos (by rw[decide_eq_true_eq];omega)]
   generalize acc+e.toNat%128*128^k=Z at*
   have v1:IntKind.i64.wrap ((Z:Int).fdiv 2)=((Z/ 2:Nat):Int):=by
    rw[zUt _ (by decide),iz _ (by omega) (by omega)]
    omega
   have v2:(Z:Int).tmod 2=((Z%2:Nat):Int):=by rw[zUs (by omega)];omega
   rw[v1,v2];unfold rJ
   by_cases aP:Z%2=0
   ·rw[if_pos aP,aP]
    rfl
   ·rw[if_neg aP,show Z%2=1 by omega,iz _ (by omega) (by omega)]
    rfl
  ·rw[if_neg ae,if_neg (by rw[decide_eq_true_eq];omega)]
theorem znz{q:bF}(av:cj q){k:Nat}{acc:Int}(an:k<=9)(he:q.s.size<=q.at_.toNat+k):rI q k acc= .ret (0,⟨q.s,q.at_,5,q.made⟩):=by
 obtain⟨aa,ae,aw⟩:=av;have bA:IntKind.i64.wrap (q.at_+(k:Int))=q.at_+(k:Int):=iz _ (by omega) (by omega)
 unfold rI;dsimp only;rw[bA,decide_eq_true (show q.at_+(k:Int)>=(q.s.size:Int)by omega)]
 rfl
theorem zb2{q:bF}(av:cj q): ∀(m k acc:Nat),k+m=10->k<=9->acc<128^k->k<=(q.s.extract q.at_.toNat q.s.size).size->
 bI (rI q) k m (acc:Int)=match bI (uF (q.s.extract q.at_.toNat q.s.size)) k ((q.s.extract q.at_.toNat q.s.size).size-k) (acc:Int)with
  | .inl (U,N,E)=>if E=0 then .inl (rJ U.toNat,⟨q.s,q.at_+N,q.bad,q.made⟩)else .inl (0,⟨q.s,q.at_,E,q.made⟩)
  | .inr _=>.inl (0,⟨q.s,q.at_,5,q.made⟩)
 |0,k,acc,hm,an,_,_=>by omega|m+1,k,acc,hm,an,ba,b4=>by
  have zpk:(q.s.extract q.at_.toNat q.s.size).size=q.s.size-q.at_.toNat:=by rw[zUb];omega
  rcases zYm k (q.s.extract q.at_.toNat q.s.size).size with bR|kG
  ·obtain⟨e,he⟩: ∃e,(q.s.extract q.at_.toNat q.s.size).data.toList[k]? =some e:=⟨_,zZa (by exact bR)⟩
   have ar:0<128^k:=zUj (by decide)
   obtain⟨j,aj⟩: ∃j,(q.s.extract q.at_.toNat q.s.size).size-k=j+1:=⟨(q.s.extract q.at_.toNat q.s.size).size-k-1,by omega⟩
   rw[aj];unfold bI;rw[znx av an ba he,LF he an ba]
   by_cases aa:(0<k/\e.toNat=0)\/(k=9/\1<e.toNat)
   ·rw[if_pos aa,if_pos aa]
    rfl
   ·rw[if_neg aa,if_neg aa]
    by_cases ae:e.toNat<128
    ·rw[if_pos ae,if_pos ae]
     dsimp only;rw[if_pos rfl,zW8]
    ·rw[if_neg ae,if_neg ae]
     dsimp only;have LG:128^(k+1)=128*128^k:=by rw[zUr,zXn]
     have zv:acc+e.toNat%128*128^k<128^(k+1):=by
      have:e.toNat%128*128^k<=127*128^k:=zUl (by omega) (zZv _)
      omega
     have zbW:k+1<=9:=by
      rcases zYm k 9 with iO|iO
      ·omega
      ·exact absurd (Or.inr ⟨by omega,by omega⟩) aa
     rw[zb2 av m (k+1) _ (by omega) zbW zv (by omega),show(q.s.extract q.at_.toNat q.s.size).size-(k+1)=j by omega]
  ·rw[show(q.s.extract q.at_.toNat q.s.size).size-k=0 by omega]
   unfold bI;rw[znz av an (by omega)]
def Ak{α:Type}(R:Rd->α × Rd)(S:bF->α × bF):Prop:=∀r q,jy r q->(R r).1=(S q).1/\jy (R r).2 (S q).2
theorem zm1{q:bF}(h:bQ q=0):q.made=true/\q.bad=0:=by
 unfold bQ at h
 cases hm:q.made with
 |false=>rw[hm]at h;cases h
 |true=>rw[hm]at h;exact⟨rfl,h⟩
theorem C6{q:bF}(h:bQ q≠0):bL q=(0,q):=by
 unfold bL;rw[show(bQ q != 0)=true by simpa using h]
 rfl
theorem Aa:Ak bk bL:=by
 intro r q h;have ah:=h
 by_cases aP:bQ q=0
 ·have ja:=eS h.1
  have ar:=h.1;obtain⟨av,rfl⟩:=h;unfold bL SN at ja⊢;unfold bk;rw[j6 ah,aP];rw[aP]at ja;simp only[bne_self_eq_false,cond_false]at ja⊢;have au:=zb2 av 10 0 0 (by omega) (by omega) (by decide) (by omega)
  rw[zVc]at au;rw[show((0:Nat):Int)=0 from rfl]at au
  rw[au]at ja⊢;generalize ao:q.s.extract q.at_.toNat q.s.size=rest at*;unfold kU C2
  cases az:bI (uF rest) 0 rest.size 0 with
  |inr a=>
   rw[az]at ja;dsimp only at ja⊢;exact⟨rfl,ja,by rw[<-ao];rfl⟩
  |inl p=>
   obtain⟨U,N,E⟩:=p;rw[az]at ja;dsimp only at ja⊢
   by_cases hR:E=0
   ·subst hR
    have znA:kU rest=(U,N,0):=by
     unfold kU C2;rw[az]
    obtain⟨u,t,xq,aJ,m5,hu⟩:=SS znA;subst xq m5;rw[if_pos rfl]at ja⊢;dsimp only at ja⊢
    have oN:rest.extract ((((jw u).size:Nat):Int)).toNat rest.size=q.s.extract (q.at_+(((jw u).size:Nat):Int)).toNat q.s.size:=by
     rw[<-ao,SX,zW8];have:=ar.1
     congr 1
     omega
    refine⟨?_,ja,?_⟩
    ·show jK .i64 _ _=_
     rw[SU hu,zW8]
    ·show(⟨rest.extract ((((jw u).size:Nat):Int)).toNat rest.size,q.bad,q.made⟩:Rd)=_
     rw[oN]
   ·rw[if_neg hR]at ja⊢
    rw[show(E != 0)=true by simpa using hR]
    exact⟨rfl,ja,by rw[<-ao];rfl⟩
 ·rw[C6 aP,C4 (by rw[j6 h];exact aP)]
  exact⟨rfl,h⟩
theorem zb3{r:Rd}{q:bF}(h:jy r q):(r.rest.size:Int)=(q.s.size:Int)-q.at_:=by
 obtain⟨⟨aa,ae,aw⟩,rfl⟩:=h;show(((q.s.extract q.at_.toNat q.s.size).size:Nat):Int)=_;rw[zUb];omega
theorem Lp(n:Int):Ak (λr=>cL r n) (λq=>cW q n):=by
 intro r q h;obtain⟨aa,ae⟩:=Aa r q h;show(cL r n).1=(cW q n).1/\jy (cL r n).2 (cW q n).2;unfold cL cW;rw[j6 ae,aa]
 have hm:(if 0>n then(0:Int)else n)=bif decide (n<0)then 0 else n:=by
  rw[cond_eq_ite]
  by_cases hn:n<0
  ·rw[if_pos hn,if_pos (decide_eq_true hn)]
  ·rw[if_neg hn,if_neg (by simpa using hn)]
 rw[hm]
 have an: ∀e:Int,jy ⟨(bk r).2.rest,e,(bk r).2.made⟩ ⟨(bL q).2.s,(bL q).2.at_,e,(bL q).2.made⟩:=λe=>by
  obtain⟨av,ah⟩:=ae;refine⟨av,?_⟩;rw[ah]
 cases (bQ (bL q).2 != 0)with
 |true=>exact⟨rfl,ae⟩|false=>
  simp only[cond_false]
  cases decide ((bL q).1<0)with
  |true=>exact⟨rfl,an 4⟩|false=>
   simp only[cond_false]
   cases decide ((bL q).1>bif decide (n<0)then 0 else n)with
   |true=>exact⟨rfl,an 3⟩|false=>exact⟨rfl,ae⟩
theorem znB(s:ByteArray)(n j:Nat)(h:n+j<=s.size):(s.extract n s.size).extract 0 j=s.extract n (n+j):=uI (by
 rw[zUe,zUd,Aj,zUe,zUd];have ao:s.size=s.data.toList.length:=rfl;simp only[zUc,zWf,zVc]
 rw[show n+j-n=j by omega])
theorem zb4(n:Int):Ak (λr=>kq r n) (λq=>lp q n):=by
 intro r q h;obtain⟨aa,ae⟩:=Lp n r q h;have zpl:=C5 q n;show(kq r n).1=(lp q n).1/\jy (kq r n).2 (lp q n).2;have ja:=jz (n:=n) h.1;unfold lp at ja⊢;unfold kq;dsimp only at aa ae;rw[j6 ae,aa];have b4:=zb3 ae;obtain⟨av,ah⟩:=ae;obtain⟨p0,H3,zb5⟩:=av;generalize cW q n=c at*;rw[ah]at b4⊢;generalize hd:cL r n=d at*;have bA:IntKind.i64.wrap ((c.2.s.size:Int)-c.2.at_)=(c.2.s.size:Int)-c.2.at_:=iz _ (by omega) (by omega)
 rw[bA]at ja⊢;dsimp only at b4⊢;rw[b4]
 cases hR:(bQ c.2 != 0)with
 |true=>
  exact⟨rfl,⟨p0,H3,zb5⟩,rfl⟩
 |false=>
  rw[hR]at ja;simp only[cond_false]at ja⊢
  by_cases ai:c.1>(c.2.s.size:Int)-c.2.at_
  ·rw[decide_eq_true ai]
   exact⟨rfl,⟨p0,H3,zb5⟩,rfl⟩
  ·rw[decide_eq_false ai]at ja⊢
   simp only[cond_false]at ja⊢;refine⟨?_,ja,?_⟩
   ·rw[znB _ _ _ (by omega)]
    congr 1
    omega
   ·have ec:IntKind.i64.wrap (c.2.at_+c.1)=c.2.at_+c.1:=iz _ (by omega) (by omega)
    rw[ec,SX];have:c.2.at_.toNat+c.1.toNat=(c.2.at_+c.1).toNat:=by omega
    rw[this]
theorem SY{q:bF}(n:Int)(h:bQ q≠0):cW q n=(0,q):=by
 unfold cW;rw[C6 h,show(bQ q != 0)=true by simpa using h]
 rfl
theorem znC{q:bF}(n:Int)(h:bQ q≠0):lp q n=(⟨#[]⟩,q):=by
 unfold lp;rw[SY n h,show(bQ q != 0)=true by simpa using h]
 rfl
theorem zbd{r:Rd}{q:bF}(e:Int)(h:jy r q):jy (lj r e) (kS q e):=by
 unfold lj kS;rw[j6 h]
 cases (bQ q==0)with
 |true=>exact⟨h.1,by rw[h.2];rfl⟩|false=>exact h
theorem znD:Ak oA td:=by
 intro r q h;obtain⟨aa,ae⟩:=Aa r q h;obtain⟨cw,a2⟩:=zb4 60 _ _ ae;obtain⟨e6,gl⟩:=Aa _ _ ae;dsimp only at cw a2
 have az:(lX r).1=x5 q/\jy (lX r).2 (qG q):=by
  have DU:(pQ q).kind=(bL q).1:=by
   unfold pQ
   cases ((bL q).1==4)<;>rfl
  unfold lX x5 qG;rw[DU,aa]
  by_cases aN:(bL q).1=4
  ·rw[if_neg (by omega),if_pos aN,show(decide ((bL q).1>=1)&&decide ((bL q).1<=3))=false by rw[aN];rfl]
   simp only[cond_false];unfold pQ uG;rw[show((bL q).1==4)=true by simpa using aN]
   simp only[cond_true];exact⟨by rw[cw],a2⟩
  ·have aE:pQ q=⟨(bL q).1,0,⟨#[]⟩⟩:=by
    unfold pQ;rw[show((bL q).1==4)=false by simpa using aN]
    rfl
   have bc:uG q=(bL q).2:=by
    unfold uG;rw[show((bL q).1==4)=false by simpa using aN]
    rfl
   rw[aE,bc]
   by_cases aw:(bL q).1=1\/(bL q).1=2\/(bL q).1=3
   ·rw[if_pos aw,show(decide ((bL q).1>=1)&&decide ((bL q).1<=3))=true by simp;omega]
    simp only[cond_true];exact⟨by rw[e6],gl⟩
   ·rw[if_neg aw,if_neg aN,show(decide ((bL q).1>=1)&&decide ((bL q).1<=3))=false by simp;omega]
    exact⟨rfl,ae⟩
 obtain⟨v1,v2⟩:=az
 have bx:jy (wc r) (uH q):=by
  unfold wc uH;rw[(GU r).1,(GU r).2,v1,zbE]
  by_cases hR:bQ (qG q)=0
  ·rw[show(bQ (qG q)==0)=true by simpa using hR]
   simp only[zVf]
   cases (x4 (x5 q) != 0)with
   |true=>exact zbd 4 v2|false=>exact v2
  ·rw[show(bQ (qG q)==0)=false by simpa using hR]
   simp only[zV7,cond_false]
   cases (x4 (x5 q) != 0)with
   |true=>
    simp only[cond_true];unfold lj;rw[j6 v2,show(bQ (qG q)==0)=false by simpa using hR]
    exact v2
   |false=>exact v2
 unfold oA td;rw[j6 bx,(GU r).1,v1]
 cases (bQ (uH q) != 0)with
 |true=>exact⟨rfl,bx⟩|false=>exact⟨rfl,bx⟩
theorem zmE{r:Rd}{q:bF}(h:jy r q):xW r=pN q:=by
 have ao:=zb3 h;unfold xW pP pN;rw[j6 h]
 cases hR:(bQ q != 0)with
 |true=>rfl|false=>
  have aP:bQ q=0:=zbB hR;simp only[cond_false];rw[ao,aP]
  by_cases au:q.at_<(q.s.size:Int)
  ·rw[decide_eq_true au,decide_eq_true (by omega)]
  ·rw[decide_eq_false au,decide_eq_false (by omega)]
end Go.aH
namespace Go.aH
open Go Go.eT
theorem znE(u:Nat):a1 .shr .u64 (u:Int) 7=((u/ 128:Nat):Int):=by
 show(u:Int).fdiv (2^(min (7:Int).toNat 64))=_;rw[show(2:Int)^(min (7:Int).toNat 64)=128 from rfl,zUt _ (by decide)]
 omega
theorem znF{u:Nat}(h:u<18446744073709551616):a1 .quo .u64 (u:Int) 128=((u/ 128:Nat):Int):=by
 show IntKind.u64.wrap ((u:Int).tdiv 128)=_;rw[Int.tdiv_eq_ediv_of_nonneg (by omega),x6]
 omega
def Al(R:Type)(c:Int × List Int):Step R (Int × List Int):=
 bif decide (c.1>=128)then .bJ (a1 .shr .u64 c.1 7,zYz c.2 [a1 .or .u8 (IntKind.wrap .u8 c.1) 128])else .c4 (c.1,c.2)
def Am(R:Type)(c:Int × List Int):Step R (Int × List Int):=
 bif decide (c.1>=128)then .bJ (a1 .quo .u64 c.1 128,zYz c.2 [IntKind.wrap .u8 (IntKind.wrap .u8 (a1 .rem .u64 c.1 128)+128)])else .c4 (c.1,c.2)
theorem znG(R:Type){u:Nat}(acc:List Int)(h:u<128):Al R ((u:Int),acc)= .c4 ((u:Int),acc):=by
 unfold Al;rw[show decide ((u:Int)>=128)=false from decide_eq_false (by omega)]
 rfl
theorem zb6(R:Type){u:Nat}(acc:List Int)(h: ¬u<128):Al R ((u:Int),acc)= .bJ (((u/ 128:Nat):Int),acc++[((u%128+128:Nat):Int)]):=by
 unfold Al;rw[show decide ((u:Int)>=128)=true from decide_eq_true (by omega),cond_true,znE]
 show Step.bJ (_,acc++[ml .u8 (IntKind.u8.wrap (u:Int)) 128])=_;rw[zbK]
theorem znH(R:Type){u:Nat}(acc:List Int)(h:u<128):Am R ((u:Int),acc)= .c4 ((u:Int),acc):=by
 unfold Am;rw[show decide ((u:Int)>=128)=false from decide_eq_false (by omega)]
 rfl
theorem zb7(R:Type){u:Nat}(acc:List Int)(h: ¬u<128)(ae:u<18446744073709551616):Am R ((u:Int),acc)= .bJ (((u/ 128:Nat):Int),acc++[((u%128+128:Nat):Int)]):=by
 unfold Am;rw[show decide ((u:Int)>=128)=true from decide_eq_true (by omega),cond_true,znF ae]
 show Step.bJ (_,acc++[IntKind.u8.wrap (IntKind.u8.wrap ((u:Int).tmod 128)+128)])=_;rw[znl]
theorem zb8{R:Type}{b:Int × List Int->Step R (Int × List Int)}(au: ∀(u:Nat) acc,u<128->b ((u:Int),acc)= .c4 ((u:Int),acc))
 (ai: ∀(u:Nat) acc,¬u<128->u<18446744073709551616->b ((u:Int),acc)= .bJ (((u/ 128:Nat):Int),acc++[((u%128+128:Nat):Int)])):
 ∀(f u F:Nat) (acc:List Int),u<128*128^f->u<18446744073709551616->f<F->∃(x:Nat) (l:List Int),dk b F ((u:Int),acc)= .inr ((x:Int),acc++l)/\(h4 f u).map (λb:Nat=>(b:Int))=l++[(x:Int)]/\x<128
 |f,u,0,acc,h,_,hF=>absurd hF (zVd _)|f,u,F+1,acc,h,we,hF=>by
  by_cases hu:u<128
  ·refine⟨u,[],by rw[zbL (au u acc hu),zV3],?_,hu⟩
   cases f with
   |zero=>rfl|succ f=>unfold h4;rw[if_pos hu];rfl
  ·cases f with
   |zero=>exact absurd h (by simpa using hu)|succ f=>
    have ae:u/ 128<128*128^f:=by
     rw[zUr]at h;omega
    obtain⟨x,l,aE,bc,cJ⟩:=zb8 au ai f (u/ 128) F (acc++[((u%128+128:Nat):Int)]) ae (by omega) (by omega)
    refine⟨x,((u%128+128:Nat):Int)::l,?_,?_,cJ⟩
    ·rw[zbM (ai u acc hu we),aE,zVt,zUq]
    ·unfold h4
     rw[if_neg hu,zXq,bc,zVl]
theorem zb9{R:Type}{b:Int × List Int->Step R (Int × List Int)}(au: ∀(u:Nat) acc,u<128->b ((u:Int),acc)= .c4 ((u:Int),acc))
 (ai: ∀(u:Nat) acc,¬u<128->u<18446744073709551616->b ((u:Int),acc)= .bJ (((u/ 128:Nat):Int),acc++[((u%128+128:Nat):Int)])){u:Nat}(we:u<18446744073709551616):
 ∃(x:Nat) (l:List Int),dk b c5 ((u:Int),[])= .inr ((x:Int),l)/\bytesOf (zYz l [IntKind.wrap .u8 (x:Int)])=jw u:=by
 obtain⟨x,l,aE,bc,cJ⟩:=zb8 au ai 9 u c5 [] (zZw we (by decide)) we (by decide)
 refine⟨x,l,aE,?_⟩;unfold jw;rw[bc,IntKind.wrap_u8',show(x:Int)%256=(x:Int)by omega]
 rfl
theorem zca{n:Int}(h:dS n):a1 .xor .u64 (a1 .shl .u64 (IntKind.wrap .u64 n) 1) (IntKind.wrap .u64 (a1 .shr .i64 n 63))=((gF n:Nat):Int):=by
 have:a1 .shr .i64 n 63=n.fdiv 9223372036854775808:=rfl;rw[this];exact zbI h
theorem SZ{n:Int}(h:dS n):cX n=jw (gF n):=by
 obtain⟨x,l,aE,bc⟩:=zb9 (R:=ByteArray) (b:=Al ByteArray) (λu acc=>znG _ acc) (λu acc h _=>zb6 _ acc h) (pJ h);unfold cX;rw[zca h];show Sum.elim _ _ (dk (Al ByteArray) c5 (((gF n:Nat):Int),[]))=_;rw[aE];exact bc
theorem S1{n:Int}(h:dS n):dm n=jw (gF n):=by
 obtain⟨x,l,aE,bc⟩:=zb9 (R:=ByteArray) (b:=Am ByteArray) (λu acc=>znH _ acc) (λu acc h ae=>zb7 _ acc h ae) (pJ h);have ba:=zbJ h;unfold dm;dsimp only
 have key: ∀v:Int,v=((gF n:Nat):Int)->Sum.elim (λr=>r) (λaT:Int × List Int=>bytesOf (zYz aT.2 [IntKind.wrap .u8 aT.1])) (dk (Am ByteArray) c5 (v,[]))=jw (gF n):=by
  rintro v rfl
  rw[aE];exact bc
 cases hd:decide (n<0)with
 |true=>
  rw[hd,cond_true]at ba;exact key _ ba
 |false=>
  rw[hd,cond_false]at ba;exact key _ ba
theorem S2{u:Nat}:(jw u).size<=10:=by rw[GQ];exact znm 9 u
def wg(d:Int × List Int):Prop:=∃(u f:Nat),d.1=(u:Int)/\u<18446744073709551616/\u<128*128^f/\d.2.length+f<=9
theorem zcb{u:Nat}(h:u<18446744073709551616):wg ((u:Int),[]):=⟨u,9,rfl,h,zZw h (by decide),zZv _⟩
theorem zcc{u:Nat}{acc:List Int}(h:wg ((u:Int),acc))(hu: ¬u<128):wg (((u/ 128:Nat):Int),acc++[((u%128+128:Nat):Int)]):=by
 obtain⟨v,f,aa,ae,aw,aN⟩:=h;have:u=v:=by have:(u:Int)=v:=aa;omega
 subst this
 cases f with
 |zero=>exact absurd aw (by simpa using hu)|succ f=>
  have aN:acc.length+(f+1)<=9:=aN;exact⟨u/ 128,f,rfl,by omega,by rw[zUr]at aw;omega,by show(acc++[_]).length+f<=9;rw[List.length_append];simp;omega⟩
theorem LH{d:Int × List Int}(h:wg d):d.2.length<=9:=by
 obtain⟨_,f,_,_,_,aN⟩:=h;omega
theorem zcd{d:Int × List Int}(h:wg d): ∃(u:Nat) (acc:List Int),d=((u:Int),acc)/\u<18446744073709551616:=by
 obtain⟨u,_,aa,ae,_⟩:=h;exact⟨u,d.2,by rw[<-aa],ae⟩
theorem zce{n:Int}(h:dS n):fL n:=by
 unfold fL;rw[zca h];refine⟨wg,λd=>d.1.toNat,zcb (pJ h),?_,λd hd=>⟨λhc=>?_,λhc=>?_⟩⟩
 ·have:=pJ h
  show(((gF n:Nat):Int)).toNat<c5;unfold c5;omega
 ·obtain⟨u,acc,rfl,hu⟩:=zcd hd
  have au:acc.length<=9:=LH hd;have hc: ¬u<128:=by have:=of_decide_eq_true hc;simp only at this;omega
  have af:=zb6 Unit acc hc;unfold Al at af;rw[show decide ((u:Int)>=128)=true from decide_eq_true (by omega),cond_true]at af
  have aE:=congrArg (λs=>match s with|Step.bJ x=>x.1|_=>0) af
  have bc:=congrArg (λs=>match s with|Step.bJ x=>x.2|_=>[]) af
  simp only at aE bc;refine⟨⟨?_,?_⟩,?_,?_⟩
  ·show acc.length+1<=maxLen
   unfold maxLen;omega
  ·show(acc.length+1)*1<=_
   omega
  ·show wg (a1 .shr .u64 (u:Int) 7,zYz acc [a1 .or .u8 (IntKind.wrap .u8 (u:Int)) 128])
   rw[aE,bc];exact zcc hd hc
  ·show(a1 .shr .u64 (u:Int) 7).toNat<(u:Int).toNat
   rw[aE];omega
 ·have au:=LH hd
  refine⟨?_,?_⟩
  ·show d.2.length+1<=maxLen
   unfold maxLen;omega
  ·show(d.2.length+1)*1<=_
   omega
theorem zcf{n:Int}(h:dS n):fX n:=by
 have key: ∀v:Int,v=((gF n:Nat):Int)->∃(bw:(Int × (List Int))->Prop) (ht:(Int × (List Int))->Nat),bw (v,[])/\ht (v,[])<c5/\∀(d0:Int × (List Int)),bw d0->(
  ((decide (d0.1>=128))=true->(
   let v11:List Int:=([(IntKind.wrap .u8 ((IntKind.wrap .u8 (a1 .rem .u64 d0.1 (128:Int)))+(128:Int)))]:List Int)
   (zZ5 d0.2+zZ5 v11<=maxLen/\(zZ5 d0.2+zZ5 v11)*1<=140737488355328)/\
   bw ((a1 .quo .u64 d0.1 (128:Int)),(zYz d0.2 v11))/\ht ((a1 .quo .u64 d0.1 (128:Int)),(zYz d0.2 v11))<ht d0))/\((decide (d0.1>=128))=false->(
   zZ5 d0.2+zZ5 ([IntKind.wrap .u8 d0.1]:List Int)<=maxLen/\(zZ5 d0.2+zZ5 ([IntKind.wrap .u8 d0.1]:List Int))*1<=140737488355328))):=by
   rintro v rfl
   refine⟨wg,λd=>d.1.toNat,zcb (pJ h),?_,λd hd=>⟨λhc=>?_,λhc=>?_⟩⟩
   ·have:=pJ h
    show(((gF n:Nat):Int)).toNat<c5;unfold c5;omega
   ·obtain⟨u,acc,rfl,hu⟩:=zcd hd
    have au:acc.length<=9:=LH hd;have hc: ¬u<128:=by have:=of_decide_eq_true hc;simp only at this;omega
    have af:=zb7 Unit acc hc hu;unfold Am at af;rw[show decide ((u:Int)>=128)=true from decide_eq_true (by omega),cond_true]at af
    have aE:=congrArg (λs=>match s with|Step.bJ x=>x.1|_=>0) af
    have bc:=congrArg (λs=>match s with|Step.bJ x=>x.2|_=>[]) af
    simp only at aE bc;refine⟨⟨?_,?_⟩,?_,?_⟩
    ·show acc.length+1<=maxLen
     unfold maxLen;omega
    ·show(acc.length+1)*1<=_
     omega
    ·show wg (a1 .quo .u64 (u:Int) 128,zYz acc [IntKind.wrap .u8 (IntKind.wrap .u8 (a1 .rem .u64 (u:Int) 128)+128)])
     rw[aE,bc];exact zcc hd hc
    ·show(a1 .quo .u64 (u:Int) 128).toNat<(u:Int).toNat
     rw[aE];omega
   ·have au:=LH hd
    refine⟨?_,?_⟩
    ·show d.2.length+1<=maxLen
     unfold maxLen;omega
    ·show(d.2.length+1)*1<=_
     omega
 have ba:=zbJ h;unfold fX;refine⟨λhd=>?_,λhd=>?_⟩
 ·rw[hd,cond_true]at ba
  exact key _ ba
 ·rw[hd,cond_false]at ba
  exact key _ ba
def tf(s:ByteArray):Prop:=s.size<=140737488351232
theorem tf.i64{s:ByteArray}(h:tf s):dS (s.size:Int):=by unfold tf at h;exact⟨by omega,by omega⟩
theorem znI{s:ByteArray}(h:tf s):kd s=jw (gF s.size)++s:=by
 unfold kd;rw[SZ h.i64];rfl
theorem znJ{s:ByteArray}(h:tf s):ke s=jw (gF s.size)++s:=by
 unfold ke;rw[S1 h.i64];rfl
theorem znK{s:ByteArray}(h:tf s):po s:=by
 refine⟨zce h.i64,?_⟩;have:=S2 (u:=gF s.size);rw[SZ h.i64];unfold tf at h;omega
theorem znL{s:ByteArray}(h:tf s):p7 s:=by
 refine⟨zcf h.i64,?_⟩;have:=S2 (u:=gF s.size);rw[S1 h.i64];unfold tf at h;omega
end Go.aH
namespace Go.aH
open Go Go.eT
theorem zcg(r:Rd)(n:Int):0<=(cL r n).1:=by
 unfold cL
 cases ej:((cl ((bk r).2)) != 0)with
 |true=>exact zW1 _|false=>
  simp only[cond_false]
  cases gO:decide ((bk r).1<0)with
  |true=>exact zW1 _|false=>
   simp only[cond_false];have gO:=of_decide_eq_false gO
   cases my:decide ((bk r).1>(if 0>n then 0 else n))with
   |true=>exact zW1 _|false=>
    simp only[cond_false];omega
theorem zch(v:dH):yE v=lW v:=by
 unfold yE lW gp;dsimp only;have:Ns v.n=GN v.n:=rfl;rw[this]
 cases (v.kind==0)<;>cases (v.kind==4)<;>cases (v.kind==1)<;>cases (v.kind==2)<;>cases (v.kind==3)<;>rfl
theorem zci(v:dH):yU v=x4 v:=by
 unfold yU x4 gp;dsimp only
 cases (v.kind==0)<;>cases (v.kind==4)<;>cases (v.kind==1)<;>cases (v.kind==2)<;>cases (v.kind==3)<;>rfl
theorem ll(r:Rd):en r=(r,cl r):=by
 unfold en cl
 cases r.made<;>rfl
theorem jS(r:bh):dz r=(r,bQ r):=by
 unfold dz bQ
 cases r.made<;>rfl
def b7(s:ByteArray):Prop:=s.size<=4611686018427387904
theorem S3{s:ByteArray}{k:Nat}(h:k<s.size):s.data.toList[k]? =some (s.data.toList.getD k 0)/\oI s (k:Int)=((s.data.toList.getD k 0).toNat:Int):=by
 have au:k<s.data.toList.length:=h;refine⟨by rw[List.getD_eq_getElem?_getD,zZa au];rfl,?_⟩
 unfold oI;rw[zW8]
theorem zcj{s:ByteArray}(h:b7 s):D8 s=kU s:=by
 unfold b7 at h;unfold D8 kU C2;dsimp only;rw[zW8,Fm (b:=uF s) (λ_ _=>True) s.size (λi v hi _=>⟨?_,λ_ _=>trivial⟩) s.size 0 0 (zZ0 _) trivial]
 ·cases bI (uF s) 0 s.size 0<;>rfl
 ·obtain⟨aE,bc⟩:=S3 hi
  unfold uF;dsimp only;rw[aE,bc];dsimp only;have hw:IntKind.wrap .i64 ((i:Int)+1)=((i+1:Nat):Int):=by rw[iz _ (by omega) (by omega)];omega
  rw[hw];rfl
theorem gY{r:Rd}(h:b7 r.rest):ei r=((bk r).2,(bk r).1):=by
 unfold ei bk;rw[ll];dsimp only;rw[zcj h]
 cases (cl r != 0)with
 |true=>rfl|false=>
  simp only[cond_false]
  cases ((kU r.rest).2.2 != 0)<;>rfl
theorem S4{s:ByteArray}{a b:Nat}(h:b7 s):b7 (s.extract a b):=by
 unfold b7 at h⊢;rw[zUb];omega
theorem fk{r:Rd}(h:b7 r.rest):b7 (bk r).2.rest:=by
 unfold bk;simp only[cond_eq_ite]
 repeat' split
 all_goals first|exact h|exact S4 h
theorem rD{r:Rd}{n:Int}(h:b7 r.rest):b7 (cL r n).2.rest:=by
 have:=fk h;unfold cL;simp only[cond_eq_ite]
 repeat' split
 all_goals exact this
theorem So{r:Rd}{n:Int}(h:b7 r.rest):b7 (kq r n).2.rest:=by
 have:=rD (n:=n) h;unfold kq;simp only[cond_eq_ite]
 repeat' split
 all_goals first|exact this|exact S4 this
theorem s6{r:Rd}{n:Int}(h:b7 r.rest):fD r n=((cL r n).2,(cL r n).1):=by
 unfold fD cL;rw[gY h];dsimp only;rw[ll];simp only[cond_eq_ite]
 repeat' split
 all_goals first|rfl|(simp_all[gy.den])
theorem Sn{r:Rd}{n:Int}(h:b7 r.rest):qP r n=((kq r n).2,(kq r n).1):=by
 unfold qP kq;rw[s6 h];dsimp only;rw[ll];simp only[cond_eq_ite]
 repeat' split
 all_goals rfl
theorem Ss(r:Rd)(e:Int):wV r e=lj r e:=by
 unfold wV lj;rw[ll]
theorem zck(r:Rd):(⟨r.rest,r.err,r.made⟩:Rd)=r:=rfl
theorem zcl{r:Rd}(h:b7 r.rest):D9 r=((oA r).2,(oA r).1):=by
 have aa:=fk h;unfold D9 oA wc GO Ag;rw[gY h];dsimp only;rw[gY aa,Sn aa];simp only[ll,Ss,zch,zck]
 cases ((bk r).1==1)<;>cases ((bk r).1==2)<;>cases ((bk r).1==3)<;>cases ((bk r).1==4)<;>simp only[cond_true,cond_false,Bool.true_or,Bool.or_true,Bool.false_or,Bool.or_false,zck]<;>(cases (lW _ != 0)<;>simp only[cond_true,cond_false]<;>(cases (cl _ != 0)<;>rfl))
theorem zmN(r:Rd):(yK r).2=xW r:=by
 unfold yK yJ xW pP;rw[ll];dsimp only
 cases (cl r != 0)<;>simp only[cond_true,cond_false]<;>rw[ll]<;>simp only[cond_eq_ite]<;>split<;>rfl
theorem fU{q:bh}(av:cj q):dJ q=((bL q).2,(bL q).1):=by
 have l6:=av;obtain⟨aa,ae,aw⟩:=av;unfold dJ bL SN;rw[jS];dsimp only
 cases (bQ q != 0)with
 |true=>rfl|false=>
  simp only[cond_false]
  rw[show zZ9 10=10 from rfl,Fm (b:=λi v=>kh (λx:Int × bF=>(x.2,x.1)) (rI q i v)) (λ_ _=>True) 10 (λi v hi _=>⟨?_,λ_ _=>trivial⟩) 10 0 0 (zZ0 _) trivial,
   zq (λx:Int × bF=>(x.2,x.1)) (b:=rI q) (λ_ _=>rfl)]
  ·cases bI (rI q) 0 10 0<;>rfl
  ·have bA:IntKind.wrap .i64 (q.at_+(i:Int))=q.at_+(i:Int):=iz _ (by omega) (by omega)
   unfold rI;dsimp only
   cases hd:decide (IntKind.wrap .i64 (q.at_+(i:Int))>=(q.s.size:Int))with
   |true=>rfl|false=>
    have hd:=of_decide_eq_false hd;rw[bA]at hd;obtain⟨j,aj⟩: ∃j:Nat,q.at_+(i:Int)=(j:Int):=⟨(q.at_+i).toNat,by omega⟩
    obtain⟨aE,bc⟩:=S3 (s:=q.s) (k:=j) (by omega)
    simp only[cond_false];rw[bA,aj,zW8,aE,bc];dsimp only;show(bif _ then _ else bif _ then(bif _ then _ else _)else _)=kh _ (bif _ then _ else bif _ then _ else _)
    simp only[cond_eq_ite]
    split
    ·rfl
    ·split
     ·show(if _ then _ else _)=Step.ret (_,if _ then _ else _)
      have af: ∀(c:Bool) (A:bh) (x y:Int),(if c=true then(Step.ret (A,x):Step (bh × Int) Int)else Step.ret (A,y))=Step.ret (A,if c=true then x else y):=λc A x y=>by cases c<;>rfl
      exact af _ _ _ _
     ·rfl
theorem wb{q:bh}{n:Int}(av:cj q):hy q n=((cW q n).2,(cW q n).1):=by
 unfold hy cW;rw[fU av];dsimp only;rw[jS]
 cases decide (n<0)<;>simp only[cond_true,cond_false]<;>simp only[cond_eq_ite]<;>(repeat' split)<;>rfl
theorem mD{q:bh}{n:Int}(av:cj q):gT q n=((lp q n).2,(lp q n).1):=by
 obtain⟨aa,ae,aw⟩:=rG (n:=n) av;have hn:=C5 q n;unfold gT lp;rw[wb av];dsimp only;rw[jS];dsimp only;have bA:IntKind.i64.wrap (((cW q n).2.s.size:Int)-(cW q n).2.at_)=((cW q n).2.s.size:Int)-(cW q n).2.at_:=iz _ (by omega) (by omega)
 rw[bA]
 cases (bQ (cW q n).2 != 0)with
 |true=>rfl|false=>
  simp only[cond_false]
  cases hd:decide ((cW q n).1>((cW q n).2.s.size:Int)-(cW q n).2.at_)with
  |true=>rfl|false=>
   have hd:=of_decide_eq_false hd;have ec:IntKind.i64.wrap ((cW q n).2.at_+(cW q n).1)=(cW q n).2.at_+(cW q n).1:=iz _ (by omega) (by omega)
   simp only[cond_false];rw[ec];rfl
theorem GH(q:bh)(e:Int):tH q e=kS q e:=by
 unfold tH kS;rw[jS]
theorem zcm(r:bh):(⟨r.s,r.at_,r.bad,r.made⟩:bh)=r:=rfl
theorem zcn{q:bh}(av:cj q):yV q=((td q).2,(td q).1):=by
 have aa:=eS av;have ae:=jz (n:=60) aa;unfold yV td uH qG x5 pQ uG;rw[fU av];dsimp only;rw[mD aa];simp only[zcm];rw[fU aa,fU ae];simp only[jS,GH,zci,zcm]
 cases ((bL q).1==4)<;>simp only[cond_true,cond_false]<;>cases (decide ((bL q).1>=1)&&decide ((bL q).1<=3))<;>simp only[cond_true,cond_false]<;>(cases hR:(bQ _==0)<;>simp only[cond_true,cond_false,zVf,zV7,bne_self_eq_false])<;>(repeat (cases (x4 _ != 0)<;>simp only[cond_true,cond_false]))<;>(cases (bQ _ != 0)<;>rfl)
end Go.aH
namespace Go.aH
open Go Go.eT
theorem znM{s:ByteArray}(h:b7 s):Nr s:=by
 unfold b7 at h;refine⟨⟨by omega,by omega⟩,λi _=>i<=9,zXx _,λi d _ hi=>?_⟩
 have hi:i<=9:=hi;intro v5 hc;refine⟨?_,λmG=>?_⟩
 ·show 0<=IntKind.wrap .i64 (7*(i:Int))
  rw[iz _ (by omega) (by omega)]
  omega
 ·have mG:=of_decide_eq_false mG
  show i+1<=9
  rcases zYm i 9 with iO|iO
  ·exact iO
  ·have:i=9:=by omega
   subst this;simp only[Bool.or_eq_false_iff,Bool.and_eq_false_iff]at hc
   rcases hc.2 with h|h
   ·exact absurd h (by decide)
   ·have:=of_decide_eq_false h
    omega
theorem znN{s:ByteArray}(h:(kU s).2.2=0):0<=(kU s).2.1/\(kU s).2.1<=(s.size:Int):=by
 obtain⟨u,t,aa,ae,aw,aN⟩:=SS (s:=s) (U:=(kU s).1) (N:=(kU s).2.1) (by rw[<-h])
 rw[aw];have:=congrArg zZ6 ae;rw[zV6]at this;omega
theorem j7{r:Rd}(h:b7 r.rest):iJ r:=by
 unfold iJ;rw[ll];intro v1 _;refine⟨znM h,λhc=>?_⟩;have hc:=zbB hc;rw[zcj h]at hc⊢;exact znN hc
theorem GM{r:Rd}{n:Int}(h:b7 r.rest):k0 r n:=j7 h
theorem Gz{r:Rd}{n:Int}(h:b7 r.rest):yD r n:=by
 refine⟨GM h,?_⟩;rw[s6 h];show(_ != 0)=false->_;rw[ll];intro _ hd;have hd:=of_decide_eq_false hd;have hn:=zcg r n;have hd: ¬(cL r n).1>((cL r n).2.rest.size:Int):=hd;exact⟨⟨hn,by omega⟩,hn,by omega⟩
theorem znO{r:Rd}(h:b7 r.rest):Ib r:=by
 have aa:=fk h;unfold Ib;rw[gY h];dsimp only;refine⟨j7 h,⟨λ_=>⟨λ_=>j7 aa,λ_ _=>Gz aa⟩,λ_=>⟨λ_=>⟨λ_=>j7 aa,λ_ _=>Gz aa⟩,λ_=>⟨λ_=>j7 aa,λ_ _=>Gz aa⟩⟩⟩⟩
theorem Lu{r:Rd}{e:Int}(h:b7 r.rest):b7 (lj r e).rest:=by
 unfold lj
 cases (cl r==0)<;>exact h
theorem S5{r:Rd}(h:b7 r.rest):b7 (oA r).2.rest:=by
 have aa:=fk h
 have ae:b7 (Ag r).rest:=by
  unfold Ag;simp only[cond_eq_ite]
  repeat' split
  ·exact fk aa
  ·exact So aa
  ·exact aa
 have aw:b7 (wc r).rest:=by
  unfold wc;simp only[cond_eq_ite]
  split
  ·exact Lu ae
  ·exact ae
 unfold oA;simp only[cond_eq_ite]
 split<;>exact aw
theorem zbh{s:ByteArray}(h:b7 s):jy (kC s) (kT s):=by
 refine⟨⟨zW1 _,by show(0:Int)<=s.size;omega,h⟩,?_⟩
 show(⟨s,0,true⟩:Rd)=⟨s.extract 0 s.size,0,true⟩;rw[show s.extract 0 s.size=s from uI (by rw[Aj];rfl)]
theorem j8{q:bh}(av:cj q):hO q:=by
 obtain⟨aa,ae,aw⟩:=av;unfold hO;rw[jS];intro v1 _;refine⟨λ_ _=>True,trivial,λi d hi _=>?_⟩;have hi:i<10:=hi;have bA:IntKind.wrap .i64 (q.at_+(i:Int))=q.at_+(i:Int):=iz _ (by omega) (by omega)
 show decide (IntKind.wrap .i64 (q.at_+(i:Int))>=(q.s.size:Int))=false->(0<=IntKind.wrap .i64 (q.at_+(i:Int))/\IntKind.wrap .i64 (q.at_+(i:Int))<(q.s.size:Int))/\_;rw[bA];intro hd;have hd:=of_decide_eq_false hd;refine⟨⟨by omega,by omega⟩,λ_=>⟨?_,λ_=>trivial⟩⟩
 show 0<=IntKind.wrap .i64 (7*(i:Int));rw[iz _ (by omega) (by omega)]
 omega
theorem uE{q:bh}{n:Int}(av:cj q):qW q n:=j8 av
theorem uD{q:bh}{n:Int}(av:cj q):ng q n:=by
 obtain⟨aa,ae,aw⟩:=rG (n:=n) av;have hn:=C5 q n;refine⟨uE av,?_⟩;rw[wb av];show(_ != 0)=false->_;rw[jS];intro _ hd;have bA:IntKind.i64.wrap (((cW q n).2.s.size:Int)-(cW q n).2.at_)=((cW q n).2.s.size:Int)-(cW q n).2.at_:=iz _ (by omega) (by omega)
 have hd:decide ((cW q n).1>IntKind.i64.wrap (((cW q n).2.s.size:Int)-(cW q n).2.at_))=false:=hd;rw[bA]at hd;have hd:=of_decide_eq_false hd;have ec:IntKind.i64.wrap ((cW q n).2.at_+(cW q n).1)=(cW q n).2.at_+(cW q n).1:=iz _ (by omega) (by omega)
 show 0<=(cW q n).2.at_/\(cW q n).2.at_<=IntKind.i64.wrap ((cW q n).2.at_+(cW q n).1)/\IntKind.i64.wrap ((cW q n).2.at_+(cW q n).1)<=((cW q n).2.s.size:Int);rw[ec];omega
theorem znP{q:bh}(av:cj q):En q:=by
 have aa:=eS av;have ae:=jz (n:=60) aa;unfold En;rw[fU av];dsimp only;refine⟨j8 av,λ_=>⟨uD aa,?_⟩,λ_ _=>j8 aa⟩;rw[mD aa];exact λ_=>j8 ae
end Go.aH
namespace Go.aH
open Go Go.aH Go.eT
def bu{ρ α β:Type}(rK:ρ->α × ρ)(th:α->ρ->β × ρ)(r:ρ):β × ρ:=th (rK r).1 (rK r).2
def cD{ρ α:Type}(a:α)(r:ρ):α × ρ:=(a,r)
def o2{α:Type}(R:Rd->α × Rd)(S:bF->α × bF):Prop:=∀r q,jy r q->jy (R r).2 (S q).2/\(cl (R r).2=0->(R r).1=(S q).1)
def iu{α:Type}(R:Rd->α × Rd):Prop:=∀r,cl r≠0->(R r).2=r
def jR{α:Type}(S:bF->α × bF):Prop:=∀q,bQ q≠0->(S q).2=q
section
variable {α β:Type}
theorem Ak.w{R:Rd->α × Rd}{S:bF->α × bF}(h:Ak R S):o2 R S:=λr q ah=>⟨(h r q ah).2,λ_=>(h r q ah).1⟩
theorem o2.bu{rK:Rd->α × Rd}{aM:bF->α × bF}{th:α->Rd->β × Rd}{dC:α->bF->β × bF}(aa:o2 rK aM)(ae: ∀a,o2 (th a) (dC a))(k: ∀a,iu (th a))(bl: ∀a,jR (dC a)):o2 (bu rK th) (bu aM dC):=λr q ah=>by
 obtain⟨g1,g2⟩:=aa r q ah;unfold aH.bu
 by_cases he:cl (rK r).2=0
 ·rw[g2 he]
  exact ae _ _ _ g1
 ·have jq:bQ (aM q).2≠0:=by rw[<-j6 g1];exact he
  rw[k _ _ he,bl _ _ jq];exact⟨g1,λh=>absurd h he⟩
theorem iu.bu{rK:Rd->α × Rd}{th:α->Rd->β × Rd}(aa:iu rK)(ae: ∀a,iu (th a)):iu (bu rK th):=λr ah=>by
 unfold aH.bu;rw[aa r ah,ae _ _ ah]
theorem jR.bu{aM:bF->α × bF}{dC:α->bF->β × bF}(aa:jR aM)(ae: ∀a,jR (dC a)):jR (bu aM dC):=λq aB=>by
 unfold aH.bu;rw[aa q aB,ae _ _ aB]
theorem o2.cD(a:α):o2 (cD a) (cD a):=λ_ _ ah=>⟨ah,λ_=>rfl⟩
theorem iu.cD(a:α):iu (cD a):=λ_ _=>rfl
theorem jR.cD(a:α):jR (cD a):=λ_ _=>rfl
def mE(R:Rd->α × Rd):Nat->List α->Rd->List α × Rd
 |0,l,r=>(l,r)|n+1,l,r=>bif cl (R r).2 != 0 then([],(R r).2)else mE R n (l++[(R r).1]) (R r).2
def pR(S:bF->α × bF):Nat->List α->bF->List α × bF
 |0,l,q=>(l,q)|n+1,l,q=>bif bQ q==0 then pR S n (l++[(S q).1]) (S q).2 else(l,q)
theorem zco{S:bF->α × bF}{q:bF}(h:bQ q≠0): ∀n l,pR S n l q=(l,q)
 |0,_=>rfl|n+1,l=>by
  have:(bQ q==0)=false:=by simpa using h
  simp only[pR,this,cond_false]
theorem zcp{R:Rd->α × Rd}{S:bF->α × bF}(h:o2 R S): ∀(n:Nat) (l:List α) (r:Rd) (q:bF),jy r q->cl r=0->jy (mE R n l r).2 (pR S n l q).2/\(cl (mE R n l r).2=0->(mE R n l r).1=(pR S n l q).1)
 |0,l,r,q,ah,_=>⟨ah,λ_=>rfl⟩
 |n+1,l,r,q,ah,he=>by
  obtain⟨g1,g2⟩:=h r q ah;have jq:bQ q=0:=by rw[<-j6 ah];exact he
  simp only[mE,pR,jq,beq_self_eq_true,cond_true]
  by_cases aa:cl (R r).2=0
  ·simp only[aa,bne_self_eq_false,cond_false]
   rw[g2 aa];exact zcp h n _ _ _ g1 aa
  ·have ae:bQ (S q).2≠0:=by rw[<-j6 g1];exact aa
   have aw:(cl (R r).2 != 0)=true:=by simpa using aa
   simp only[aw,cond_true];rw[zco ae];exact⟨g1,λh=>absurd h aa⟩
def lV(m:Int)(R:Rd->α × Rd):Rd->List α × Rd:=bu (λr=>cL r m) λn r=>mE R n.toNat [] r
def mC(m:Int)(S:bF->α × bF):bF->List α × bF:=bu (λq=>cW q m) λn q=>pR S n.toNat [] q
theorem S6{R:Rd->α × Rd}(h:iu R)(n:Nat)(l:List α):iu (mE R n l):=λr ah=>by
 cases n with
 |zero=>rfl|succ n=>
  have aa:(cl (R r).2 != 0)=true:=by rw[h r ah];simpa using ah
  simp only[mE,aa,cond_true];exact h r ah
theorem S7{S:bF->α × bF}(n:Nat)(l:List α):jR (pR S n l):=λq aB=>by rw[zco aB]
theorem znQ{R:Rd->α × Rd}{S:bF->α × bF}(h:o2 R S)(k:iu R)(n:Nat)(l:List α):o2 (mE R n l) (pR S n l):=λr q ah=>by
 by_cases he:cl r=0
 ·exact zcp h n l r q ah he
 ·have jq:bQ q≠0:=by rw[<-j6 ah];exact he
  rw[S6 k n l r he,S7 n l q jq];exact⟨ah,λh=>absurd h he⟩
theorem iu.int:iu bk:=λr h=>by rw[C4 h]
theorem jR.int:jR bL:=λr h=>by rw[C6 h]
theorem iu.count(n:Int):iu (λr=>cL r n):=λr h=>by show(cL r n).2=r;rw[SV n h]
theorem jR.count(n:Int):jR (λq=>cW q n):=λr h=>by show(cW r n).2=r;rw[SY n h]
theorem iu.text(n:Int):iu (λr=>kq r n):=λr h=>by show(kq r n).2=r;rw[zns n h]
theorem jR.text(n:Int):jR (λq=>lp q n):=λr h=>by show(lp r n).2=r;rw[znC n h]
theorem znR{R:Rd->α × Rd}(h:iu R)(m:Int):iu (lV m R):=iu.bu (iu.count m) λn=>S6 h _ _
theorem znS{S:bF->α × bF}(m:Int):jR (mC m S):=jR.bu (jR.count m) λn=>S7 _ _
theorem znT{R:Rd->α × Rd}{S:bF->α × bF}(h:o2 R S)(k:iu R)(m:Int):o2 (lV m R) (mC m S):=
 o2.bu (Lp m).w (λn=>znQ h k _ _) (λn=>S6 k _ _) λn=>S7 _ _
end
end Go.aH
namespace Go.aH
open Go Go.aH Go.eT
def drain:Nat->Rd->Rd
 |0,r=>r|k+1,r=>bif cl r==0 then drain k (bk r).2 else r
def je:Nat->List Int->Rd->List Int × Rd
 |0,l,r=>(l,r)|n+1,l,r=>je n (l++[(bk r).1]) (bk r).2
def om:Nat->List Int->bF->List Int × bF
 |0,l,q=>(l,q)|n+1,l,q=>bif bQ (bL q).2 != 0 then([],(bL q).2)else om n (l++[(bL q).1]) (bL q).2
def wh(F:Nat)(m:Int)(r:Rd):List Int × Rd:=
 bif decide ((cL r m).1>pP (cL r m).2)then([],drain F (cL r m).2)
 else bif cl (je (cL r m).1.toNat [] (cL r m).2).2 != 0 then([],(je (cL r m).1.toNat [] (cL r m).2).2)
 else je (cL r m).1.toNat [] (cL r m).2
def x2(m:Int)(q:bF):List Int × bF:=om (cW q m).1.toNat [] (cW q m).2
theorem znU{r:Rd}(h:cl r≠0): ∀k,drain k r=r
 |0=>rfl|k+1=>by
  have:(cl r==0)=false:=by simpa using h
  simp only[drain,this,cond_false]
theorem zcq{r:Rd}(h:cl (bk r).2=0):(bk r).2.rest.size+1<=r.rest.size:=by
 obtain⟨a,t,aE,aa,ji⟩:=znr.dec r h;rw[ji,aE];show t.size+1<=(LD a++t).size;rw[zV6,SP aa,GQ];have:=zbR 9 (gF a);omega
theorem znV{q:bF}(h:bQ q≠0): ∀(n:Nat) (l:List Int),(om n l q).2=q
 |0,_=>rfl|n+1,l=>by
  have aa:(bQ (bL q).2 != 0)=true:=by rw[C6 h];simpa using h
  simp only[om,aa,cond_true];rw[C6 h]
theorem zcr: ∀(n F:Nat) (l:List Int) (r:Rd) (q:bF),jy r q->cl r=0->r.rest.size<n->r.rest.size<F->jy (drain F r) (om n l q).2/\(om n l q).1=[]
 |0,_,_,_,_,_,_,h,_=>absurd h (zVd _)|n+1,0,_,_,_,_,_,_,h=>absurd h (zVd _)|n+1,F+1,l,r,q,ah,he,aa,ae=>by
  obtain⟨g1,g2⟩:=Aa r q ah;have aE:(cl r==0)=true:=by simpa using he
  simp only[drain,aE,cond_true,om]
  by_cases aw:cl (bk r).2=0
  ·have aN:(bQ (bL q).2 != 0)=false:=by rw[<-j6 g2];simpa using aw
   simp only[aN,cond_false];have:=zcq aw;exact zcr n F _ _ _ g2 aw (by omega) (by omega)
  ·have aN:(bQ (bL q).2 != 0)=true:=by rw[<-j6 g2];simpa using aw
   simp only[aN,cond_true];rw[znU aw];exact⟨g2,by first|trivial|rfl⟩
theorem zcs{r:Rd}(h:cl r≠0): ∀(n:Nat) (l:List Int),(je n l r).2=r
 |0,_=>rfl|n+1,l=>by
  simp only[je,C4 h];exact zcs h n _
theorem zct: ∀(n:Nat) (l:List Int) (r:Rd) (q:bF),jy r q->cl r=0->jy (je n l r).2 (om n l q).2/\(cl (je n l r).2=0->(je n l r).1=(om n l q).1)/\(cl (je n l r).2≠0->(om n l q).1=[])
 |0,l,r,q,ah,he=>⟨ah,λ_=>rfl,λh=>absurd he h⟩
 |n+1,l,r,q,ah,he=>by
  obtain⟨g1,g2⟩:=Aa r q ah;simp only[je,om]
  by_cases aw:cl (bk r).2=0
  ·have aN:(bQ (bL q).2 != 0)=false:=by rw[<-j6 g2];simpa using aw
   simp only[aN,cond_false];rw[g1];exact zct n _ _ _ g2 aw
  ·have aN:(bQ (bL q).2 != 0)=true:=by rw[<-j6 g2];simpa using aw
   simp only[aN,cond_true];rw[zcs aw];exact⟨g2,λh=>absurd h aw,λ_=>by first|trivial|rfl⟩
theorem znW{F:Nat}(m:Int): ∀r q,jy r q->r.rest.size<F->(wh F m r).1=(x2 m q).1/\jy (wh F m r).2 (x2 m q).2:=λr q ah hF=>by
 obtain⟨g1,g2⟩:=Lp m r q ah;unfold wh x2;have g1:(cL r m).1=(cW q m).1:=g1;have g2:jy (cL r m).2 (cW q m).2:=g2;rw[<-g1]
 have b4:(cL r m).2.rest.size<=r.rest.size:=by
  have hi:(bk r).2.rest.size<=r.rest.size:=by
   unfold bk
   cases af:cl r != 0
   ·simp only[cond_false]
    cases hc:(kU r.rest).2.2 != 0
    ·simp only[cond_false]
     rw[zUb];omega
    ·exact zZv _
   ·exact zZv _
  unfold cL
  cases cl (bk r).2 != 0 with
  |true=>exact hi|false=>
   simp only[cond_false]
   cases decide ((bk r).1<0)with
   |true=>exact hi|false=>
    simp only[cond_false]
    cases decide ((bk r).1>(if 0>m then 0 else m))<;>exact hi
 by_cases he:cl (cL r m).2=0
 ·have au:pP (cL r m).2=(((cL r m).2.rest.size:Nat):Int):=by
   unfold pP;simp[he]
  by_cases hn:(cL r m).1>pP (cL r m).2
  ·simp only[decide_eq_true hn,cond_true]
   rw[au]at hn;obtain⟨dp,dP⟩:=zcr (cL r m).1.toNat F [] _ _ g2 he (by omega) (by omega)
   exact⟨dP.symm,dp⟩
  ·simp only[decide_eq_false hn,cond_false]
   obtain⟨dp,dP,hT⟩:=zct (cL r m).1.toNat [] _ _ g2 he
   by_cases bx:cl (je (cL r m).1.toNat [] (cL r m).2).2=0
   ·have cB:(cl (je (cL r m).1.toNat [] (cL r m).2).2 != 0)=false:=by simpa using bx
    simp only[cB,cond_false];exact⟨dP bx,dp⟩
   ·have cB:(cl (je (cL r m).1.toNat [] (cL r m).2).2 != 0)=true:=by simpa using bx
    simp only[cB,cond_true];exact⟨(hT bx).symm,dp⟩
 ·have aP:(cL r m).1=0:=by
   unfold cL at he⊢
   cases aa:cl (bk r).2 != 0 with
   |true=>rfl|false=>
    simp only[aa,cond_false]at he⊢
    cases ae:decide ((bk r).1<0)with
    |true=>rfl|false=>
     simp only[ae,cond_false]at he⊢
     cases aw:decide ((bk r).1>(if 0>m then 0 else m))with
     |true=>rfl|false=>
      simp only[aw,cond_false]at he;exact absurd (by simpa using aa) he
  have au:pP (cL r m).2=0:=by
   unfold pP;have:(cl (cL r m).2 != 0)=true:=by simpa using he
   simp[this]
  rw[aP,au]
  have cB:(cl (je (zZ9 0) [] (cL r m).2).2 != 0)=true:=by
   show(cl (cL r m).2 != 0)=true;simpa using he
  simp only[Int.lt_irrefl,gt_iff_lt,decide_false,cond_false,cB,cond_true];exact⟨rfl,g2⟩
end Go.aH
namespace Go.aH
open Go Go.aH Go.eT
def An(f:Nat->ByteArray):Nat->Nat->ByteArray
 |_,0=>⟨#[]⟩|k,n+1=>f k++An f (k+1) n
theorem znX(l m:List Int):bytesOf (l++m)=bytesOf l++bytesOf m:=uI (by
 rw[Ah,zUf,zVw,Ah,Ah,List.map_append])
theorem Lm(l:List Int)(a:ByteArray):bytesOf (l++cx.den .da a)=bytesOf l++a:=by
 rw[znX]
 congr 1
 exact uI (by
  rw[Ah];show(List.map (λu:UInt8=>(u.toNat:Int)) a.data.toList).map _=_;rw[zWq]
  conv=>rhs;rw[<-List.map_id a.data.toList]
  exact List.map_congr_left λu _=>by simp)
theorem zcu{R:Type}{f:Nat->ByteArray}{b:Nat->List Int->Step R (List Int)}: ∀(n k:Nat) (a:List Int),(∀i a,k<=i->i<k+n->b i a= .bJ (a++cx.den .da (f i)))->∃l,bI b k n a= .inr l/\bytesOf l=bytesOf a++An f k n
 |0,k,a,_=>⟨a,rfl,zUa.symm⟩|n+1,k,a,h=>by
  obtain⟨l,aa,ae⟩:=zcu n (k+1) (a++cx.den .da (f k)) λi a aa ae=>h i a (by omega) (by omega)
  refine⟨l,?_,?_⟩
  ·simp only[bI,h k a (zZv _) (by omega)]
   exact aa
  ·rw[ae,Lm,zUz]
   rfl
theorem zcv{R:Type}{f:Nat->ByteArray}{b:Nat->ByteArray->Step R ByteArray}: ∀(n k:Nat) (a:ByteArray),(∀i a,k<=i->i<k+n->b i a= .bJ (a++f i))->bI b k n a= .inr (a++An f k n)
 |0,k,a,_=>by
  show Sum.inr a=Sum.inr (a++zU0);rw[zUa]
 |n+1,k,a,h=>by
  simp only[bI,h k a (zZv _) (by omega)]
  rw[zcv n (k+1) (a++f k) λi a aa ae=>h i a (by omega) (by omega),zUz]
  rfl
end Go.aH
namespace Go.aH
open Go Go.aH Go.eT
def fo(n:Int):ByteArray:=jw (gF n)
def m2(s:ByteArray):ByteArray:=fo s.size++s
theorem dx(n:Int):(fo n).size<=10:=S2
theorem zcw(s:ByteArray):(m2 s).size<=10+s.size:=by
 unfold m2;rw[zV6];have:=dx (s.size:Int);omega
structure bM {α:Type} (V:α->Prop) (m:α->ByteArray) (p:α->Prop) (e:α->ByteArray) (C:Nat):Prop where
 eq: ∀{x:α},V x->m x=e x
 ok: ∀{x:α},V x->p x
 rp: ∀{x:α},V x->(e x).size<=C
def jl(s:ByteArray):Prop:=s.size<=1048576
theorem jl.rp{s:ByteArray}(h:jl s):tf s:=by unfold jl at h;unfold tf;omega
theorem bM.int:bM dS cX fL fo 10:=⟨λh=>SZ h,λh=>zce h,λ_=>dx _⟩
theorem bP.int:bM dS dm fX fo 10:=⟨λh=>S1 h,λh=>zcf h,λ_=>dx _⟩
theorem j9{s:ByteArray}(h:jl s):(m2 s).size<=1048586:=by
 have:=zcw s;unfold jl at h;omega
theorem bM.text:bM jl kd po m2 1048586:=⟨λh=>znI h.rp,λh=>znK h.rp,λh=>j9 h⟩
theorem bP.text:bM jl ke p7 m2 1048586:=⟨λh=>znJ h.rp,λh=>znL h.rp,λh=>j9 h⟩
def S8(v:dH):Prop:=dS v.kind/\dS v.n/\jl v.s
def ti(v:dH):ByteArray:=if lW v=0 then(if v.kind=0 then fo 0 else if v.kind=4 then fo v.kind++m2 v.s else fo v.kind++fo v.n)else fo 0
theorem pK:dS 0:=⟨by omega,by omega⟩
theorem GV(v:dH):(ti v).size<=80:=by
 unfold ti;have aa:=dx v.kind;have ae:=dx v.n;have aw:=zcw v.s;have aP:=dx 0
 split
 ·rename_i h
  have:=zb0 h
  split
  ·omega
  ·split<;>rw[zV6]<;>omega
 ·omega
theorem bM.val:bM S8 y5 IN ti 80:=by
 refine⟨λ{v} ⟨aa,ae,aw⟩=>?_,λ{v} ⟨aa,ae,aw⟩=>?_,λ_=>GV _⟩
 ·unfold y5 ti
  rw[zch]
  by_cases aW:lW v=0
  ·rw[if_pos aW,aW]
   rcases zb1 aW with⟨k,_,_⟩|⟨k,_,_⟩|⟨k,_,_⟩
   ·simp only[k]
    exact bM.int.eq pK
   ·have an:v.kind≠0/\v.kind≠4:=by omega
    rw[if_neg an.1,if_neg an.2,<-bM.int.eq aa,<-bM.int.eq ae]
    rcases k with k|k|k<;>rw[k]<;>rfl
   ·rw[k,if_neg (by decide),if_pos rfl,<-bM.text.eq aw,<-bM.int.eq (x:=4) ⟨by omega,by omega⟩]
    rfl
  ·rw[if_neg aW,show(lW v != 0)=true by simpa using aW,<-bM.int.eq pK]
   rfl
 ·have zpm: ∀k:Int,0<=k->k<=4->dS k:=λk a b=>⟨by omega,by omega⟩
  unfold IN;dsimp only
  have key: ∀(k n:Int) (s:ByteArray),dS k->dS n->jl s->(fL k)/\(∀b:Bool,(b=true->((fL n)/\(cX k).size+(cX n).size<=9223372036854775807))/\(b=false->((k==4)=true->((po s)/\(cX k).size+(kd s).size<=9223372036854775807)))):=λk n s a b c=>by
   have s1:=dx k;have s2:=dx n;have jc:=j9 c;rw[bM.int.eq a,bM.int.eq b,bM.text.eq c];exact⟨bM.int.ok a,λhL=>⟨λ_=>⟨bM.int.ok b,by omega⟩,λ_ _=>⟨bM.text.ok c,by omega⟩⟩⟩
  refine⟨λ_=>?_,λ_=>?_⟩
  ·have:=key 0 0 ⟨#[]⟩ pK pK (zXx _)
   exact⟨this.1,λ_=>this.2 _,λ_=>⟨λ_=>this.2 _,λ_=>this.2 _⟩⟩
  ·have:=key v.kind v.n v.s aa ae aw
   exact⟨this.1,λ_=>this.2 _,λ_=>⟨λ_=>this.2 _,λ_=>this.2 _⟩⟩
end Go.aH
