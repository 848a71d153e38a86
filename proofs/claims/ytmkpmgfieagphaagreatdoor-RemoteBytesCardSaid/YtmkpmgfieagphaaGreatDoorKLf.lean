/- Numbers, texts, values, readers: the spec functions. Conditions: none. -/
import Derived.Test.YtmkpmgfieagphaaGreatDoorKTEk
import Derived.Laws.RangeString
import Derived.Laws.RangeAny
import Derived.Laws.BitsAllLaws
import Derived.Laws.DeepNot64
import Derived.Test.YtmkpmgfieagphaaGreatDoorKPm
namespace Go.aL
open Go Go.aL Go.eL
abbrev dK:=cp
def qY(s:ByteArray)(kR:Nat)(qZ:Int):Step (Int × Int × Int) (Int):=
 match qZ with
 |(q0)=>(match(s.data.toList)[kR]? with|some mN=>(bif((decide ((kR:Int)>0)&&((mN.toNat:Int)==0))||(((kR:Int)==9)&&decide ((mN.toNat:Int)>1)))then .ret (0,0,4)else(bif decide ((mN.toNat:Int)<128)then .ret (kS .u64 q0 (IntKind.u64.wrap ((IntKind.u64.wrap (lA .u8 (mN.toNat:Int) 127))*2^(min (IntKind.i64.wrap (7*(kR:Int))).toNat 64))),((kR+1:Nat):Int),0)else .br (kS .u64 q0 (IntKind.u64.wrap ((IntKind.u64.wrap (lA .u8 (mN.toNat:Int) 127))*2^(min (IntKind.i64.wrap (7*(kR:Int))).toNat 64))))))|none=>.br qZ)
def yz(s:ByteArray)(qZ:Int):(Int × Int × Int)⊕(Int):=bo (qY s) 0 s.size qZ
def jW(s:ByteArray):Int × Int × Int:=
 (match(yz s (0))with| .inl F4=>F4| .inr (q0)=>(0,0,5))
def kq(r:Rd):(Int):=
 (bif !r.made then 15 else r.err)
def dn(r:Rd):(Int × Rd):=
 (bif((kq r) != 0)then(0,r)else(bif((((jW r.rest).2).2) != 0)then(0,(⟨r.rest,(((jW r.rest).2).2),r.made⟩:Rd))else(jE .i64 (IntKind.i64.wrap (((jW r.rest).1).fdiv 2)) (IntKind.i64.wrap (0-IntKind.i64.wrap (lA .u64 ((jW r.rest).1) 1))),(⟨r.rest.extract ((((jW r.rest).2).1).toNat) r.rest.size,r.err,r.made⟩:Rd))))
def ha(r:Rd)(n:Int):(Int × Rd):=
 (bif((kq ((dn r).2)) != 0)then(0,((dn r).2))else(bif decide ((dn r).1<0)then(0,(⟨((dn r).2).rest,4,((dn r).2).made⟩:Rd))else(bif decide ((dn r).1>(if 0>n then 0 else n))then(0,(⟨((dn r).2).rest,3,((dn r).2).made⟩:Rd))else((dn r).1,((dn r).2)))))
def kr(r:Rd)(n:Int):(ByteArray × Rd):=
 (bif((kq ((ha r n).2)) != 0)then(⟨#[]⟩,((ha r n).2))else(bif decide ((ha r n).1>(((((ha r n).2).rest).size:Nat):Int))then(⟨#[]⟩,(⟨((ha r n).2).rest,5,((ha r n).2).made⟩:Rd))else((((ha r n).2).rest).extract 0 (((ha r n).1).toNat),(⟨(((ha r n).2).rest).extract (((ha r n).1).toNat) (((ha r n).2).rest).size,((ha r n).2).err,((ha r n).2).made⟩:Rd))))
def sr(r:Rd)(e:Int):(Rd):=
 (bif((kq r)==0)then(⟨r.rest,e,r.made⟩:Rd)else r)
def F5(r:Rd):(Int):=
 (bif((kq r) != 0)then 0 else(r.rest.size:Int))
def pO(r:Rd):(Int):=
 (bif decide ((F5 r)>0)then 23 else(kq r))
def yA(n:Int):Bool:=
 (decide (n≥ -1099511627776)&&decide (n≤1099511627776))
def nz(v:cf):Int:=
 (bif(((v.kind==0)||(v.kind==4))||((v.kind==1)||((v.kind==2)||(v.kind==3))))then(bif !(bif((v.kind==0)||(v.kind==4))then(v.n==0)else(bif(v.kind==1)then((v.n==0)||(v.n==1))else(bif(v.kind==2)then yA v.n else(decide (v.n≥0)&&decide (v.n≤63)))))then 2 else(bif decide ((v.s.size:Int)>60)then 3 else(bif(!dF v.s (⟨#[]⟩)&&(v.kind != 4))then 4 else 0)))else 7)
def ss(v:cf):Int:=
 (bif(((v.kind==0)||(v.kind==4))||((v.kind==1)||((v.kind==2)||(v.kind==3))))then(bif(decide (v.n<(bif(((v.kind==0)||(v.kind==4))||((v.kind==1)|| !(v.kind==2)))then 0 else -1099511627776))||decide (v.n>(bif((v.kind==0)||(v.kind==4))then 0 else(bif(v.kind==1)then 1 else(bif(v.kind==2)then 1099511627776 else 63)))))then 2 else(bif decide ((v.s.size:Int)>60)then 3 else(bif(!dF v.s (⟨#[]⟩)&&(v.kind != 4))then 4 else 0)))else 7)
def yB(r:Rd):cf:=(bif(((dn r).1==1)||(((dn r).1==2)||((dn r).1==3)))then(⟨(dn r).1,(dn ((dn r).2)).1,⟨#[]⟩⟩:cf)else(bif((dn r).1==4)then(⟨(dn r).1,0,(kr ((dn r).2) 60).1⟩:cf)else(⟨(dn r).1,0,⟨#[]⟩⟩:cf)))
def tX(r:Rd):Rd:=(bif(((dn r).1==1)||(((dn r).1==2)||((dn r).1==3)))then((dn ((dn r).2)).2)else(bif((dn r).1==4)then((kr ((dn r).2) 60).2)else((dn r).2)))
def su(r:Rd):Rd:=(bif(nz (yB r) != 0)then(sr (tX r) 4)else(tX r))
def sv(r:Rd):(cf × Rd):=
 (bif((kq (su r)) != 0)then((⟨0,0,⟨#[]⟩⟩:cf),(su r))else((yB r),(su r)))
def gp(r:dK):(Int):=
 (bif !r.made then 15 else r.bad)
def nA(r:dK)(kR:Nat)(qZ:Int):Step (Int × dK) (Int):=
 match qZ with
 |(q0)=>(bif decide (IntKind.i64.wrap (r.at_+(kR:Int))≥(r.s.size:Int))then .ret (0,(⟨r.s,r.at_,5,r.made⟩:dK))else(match(r.s.data.toList)[(IntKind.i64.wrap (r.at_+(kR:Int))).toNat]? with|some mN=>(bif((decide ((kR:Int)>0)&&((mN.toNat:Int)==0))||(((kR:Int)==9)&&decide ((mN.toNat:Int)>1)))then .ret (0,(⟨r.s,r.at_,4,r.made⟩:dK))else(bif decide ((mN.toNat:Int)<128)then .ret ((bif((kS .u64 q0 (IntKind.u64.wrap ((IntKind.u64.wrap ((mN.toNat:Int).tmod 128))*2^(min (IntKind.i64.wrap (7*(kR:Int))).toNat 64)))).tmod 2==1)then IntKind.i64.wrap (-1-IntKind.i64.wrap ((kS .u64 q0 (IntKind.u64.wrap ((IntKind.u64.wrap ((mN.toNat:Int).tmod 128))*2^(min (IntKind.i64.wrap (7*(kR:Int))).toNat 64)))).fdiv 2))else IntKind.i64.wrap ((kS .u64 q0 (IntKind.u64.wrap ((IntKind.u64.wrap ((mN.toNat:Int).tmod 128))*2^(min (IntKind.i64.wrap (7*(kR:Int))).toNat 64)))).fdiv 2)),(⟨r.s,IntKind.i64.wrap (IntKind.i64.wrap (r.at_+(kR:Int))+1),r.bad,r.made⟩:dK))else .br (kS .u64 q0 (IntKind.u64.wrap ((IntKind.u64.wrap ((mN.toNat:Int).tmod 128))*2^(min (IntKind.i64.wrap (7*(kR:Int))).toNat 64))))))|none=>.br qZ))
def F6(r:dK)(qZ:Int):(Int × dK)⊕(Int):=bo (nA r) 0 10 qZ
def du(r:dK):(Int × dK):=
 (bif((gp r) != 0)then(0,r)else(match(F6 r (0))with| .inl F4=>F4| .inr (q0)=>(0,r)))
def dw(r:dK)(n:Int):(Int × dK):=
 (bif((gp ((du r).2)) != 0)then(0,((du r).2))else(bif decide ((du r).1<0)then(0,(⟨((du r).2).s,((du r).2).at_,4,((du r).2).made⟩:dK))else(bif decide ((du r).1>(bif decide (n<0)then 0 else n))then(0,(⟨((du r).2).s,((du r).2).at_,3,((du r).2).made⟩:dK))else((du r).1,((du r).2)))))
def lB(r:dK)(n:Int):(ByteArray × dK):=
 (bif((gp ((dw r n).2)) != 0)then(⟨#[]⟩,((dw r n).2))else(bif decide ((dw r n).1>IntKind.i64.wrap ((((((dw r n).2).s).size:Nat):Int)-((dw r n).2).at_))then(⟨#[]⟩,(⟨((dw r n).2).s,((dw r n).2).at_,5,((dw r n).2).made⟩:dK))else((((dw r n).2).s).extract ((((dw r n).2).at_).toNat) ((((dw r n).2).at_+(dw r n).1).toNat),(⟨((dw r n).2).s,IntKind.i64.wrap (((dw r n).2).at_+(dw r n).1),((dw r n).2).bad,((dw r n).2).made⟩:dK))))
def mO(r:dK):cf:=(bif((du r).1==4)then(⟨(du r).1,0,(lB ((du r).2) 60).1⟩:cf)else(⟨(du r).1,0,⟨#[]⟩⟩:cf))
def tY(r:dK):dK:=(bif((du r).1==4)then((lB ((du r).2) 60).2)else((du r).2))
def pP(r:dK):dK:=(bif(decide ((mO r).kind≥1)&&decide ((mO r).kind≤3))then((du (tY r)).2)else(tY r))
def tZ(r:dK):cf:=(bif(decide ((mO r).kind≥1)&&decide ((mO r).kind≤3))then(⟨(mO r).kind,(du (tY r)).1,(mO r).s⟩:cf)else(mO r))
def yC(r:dK)(e:Int):(dK):=
 (bif((gp r)==0)then(⟨r.s,r.at_,e,r.made⟩:dK)else r)
def ua(r:dK):dK:=(bif(((gp (pP r))==0)&&(ss (tZ r) != 0))then(yC (pP r) 4)else(pP r))
def vU(r:dK):(cf × dK):=
 (bif((gp (ua r)) != 0)then((⟨0,0,⟨#[]⟩⟩:cf),(ua r))else((tZ r),(ua r)))
def BO(r:dK):(Int):=
 (bif((gp r) != 0)then(gp r)else(bif decide (r.at_<(r.s.size:Int))then 23 else 0))
def OS(s:ByteArray):Rd:=(⟨s,0,true⟩:Rd)
def OT(s:ByteArray):dK:=(⟨s,0,0,true⟩:dK)
def jF(r:dK):Prop:=0≤r.at_∧r.at_≤(r.s.size:Int)∧r.s.size≤4611686018427387904
open Classical in
theorem OU{a:Int}(h:(a != 0)=false):a=0:=by simpa using h
theorem XD{α:Type}{l:List α}{k:Nat}{x:α}:x∈l.take k↔∃i,i<k∧l[i]? =some x:=by
 rw[List.mem_iff_getElem?]
 constructor
 ·rintro⟨i,hi⟩
  rw[List.getElem?_take]at hi
  split at hi
  ·rename_i h;exact⟨i,h,hi⟩
  ·cases hi
 ·rintro⟨i,h,hi⟩
  exact⟨i,by rw[List.getElem?_take,if_pos h];exact hi⟩
theorem XE{α:Type}{p q:Prop}[Decidable p][Decidable q]{a b:α}(h:p↔q):(if p then a else b)=if q then a else b:=by
 by_cases ak:p
 ·rw[if_pos ak,if_pos (h.1 ak)]
 ·rw[if_neg ak,if_neg fun aI=>ak (h.2 aI)]
theorem OV{α:Type}{p q:Prop}[Decidable p][Decidable q]{a b:α}(h:p↔¬q):(if p then a else b)=if q then b else a:=by
 by_cases aI:q
 ·rw[if_pos aI,if_neg fun ak=>h.1 ak aI]
 ·rw[if_neg aI,if_pos (h.2 aI)]
theorem OW(v:cf):nz v=ss v:=by
 unfold nz ss yA
 simp only[cond_eq_ite]
 by_cases aM:v.kind=0
 ·simp[aM]
  apply OV;omega
 by_cases aQ:v.kind=4
 ·simp[aQ]
  apply OV;omega
 by_cases aa:v.kind=1
 ·simp[aa]
  apply XE;omega
 by_cases ae:v.kind=2
 ·simp[ae]
 by_cases au:v.kind=3
 ·simp[au]
 ·simp[aM,aa,ae,au,aQ]
end Go.aL
namespace Go.aL
open Go Go.aL Go.eL
def kT:Nat→Nat→List Nat
 |0,u=>[u]
 |f+1,u=>if u<128 then[u]else(u%128+128)::kT f (u/ 128)
def hb(n:Int):Nat:=if 0≤n then(2*n).toNat else(-2*n-1).toNat
def yD(u:Nat):Int:=if u%2=0 then((u/ 2:Nat):Int)else -1-((u/ 2:Nat):Int)
def hH(n:Int):Prop:= -9223372036854775808≤n∧n<9223372036854775808
theorem q1{n:Int}(h:hH n):hb n<18446744073709551616:=by
 unfold hH at h
 unfold hb
 split<;>omega
theorem pQ(n:Int):IntKind.u64.wrap n=n%18446744073709551616:=by simp[IntKind.wrap,IntKind.bits,IntKind.signed]
theorem F7(a b:Nat)(a1:a<18446744073709551616)(ad:b<18446744073709551616):jE .u64 (a:Int) (b:Int)=((a ^^^ b:Nat):Int):=u64_xor_nat a b a1 ad
theorem XF(a b:Nat)(a1:a<18446744073709551616)(ad:b<18446744073709551616):kS .u64 (a:Int) (b:Int)=((a ||| b:Nat):Int):=u64_or_nat a b a1 ad
theorem XG(a b:Nat)(a1:a<18446744073709551616)(ad:b<18446744073709551616):lA .u64 (a:Int) (b:Int)=((a &&& b:Nat):Int):=u64_and_nat a b a1 ad
theorem XH(a b:Nat)(a1:a<256)(ad:b<256):kS .u8 (a:Int) (b:Int)=((a ||| b:Nat):Int):=u8_or_nat a b a1 ad
theorem OX(a b:Nat)(a1:a<256)(ad:b<256):lA .u8 (a:Int) (b:Int)=((a &&& b:Nat):Int):=u8_and_nat a b a1 ad
theorem OY(a:Nat)(a1:a<18446744073709551616):a ^^^ 18446744073709551615=18446744073709551615-a:=by
 have h:(BitVec.ofNat 64 a ^^^ BitVec.allOnes 64)= ~~~(BitVec.ofNat 64 a):=by rw[BitVec.xor_allOnes]
 have ae:=congrArg BitVec.toNat h
 rw[BitVec.toNat_not,BitVec.toNat_xor,BitVec.toNat_ofNat,BitVec.toNat_allOnes,Nat.mod_eq_of_lt a1]at ae
 exact ae
theorem XI{n:Int}(h:hH n):jE .u64 (IntKind.u64.wrap (IntKind.u64.wrap n*2)) (IntKind.u64.wrap (n.fdiv 9223372036854775808))=((hb n:Nat):Int):=by
 obtain⟨aa,ae⟩:=h
 rw[pQ,pQ,pQ,Int.fdiv_eq_ediv_of_nonneg _ (by decide)]
 by_cases hn:0≤n
 ·have aB:n%18446744073709551616*2%18446744073709551616=((hb n:Nat):Int):=by unfold hb;rw[if_pos hn];omega
  have bf:n/ 9223372036854775808%18446744073709551616=((0:Nat):Int):=by omega
  rw[aB,bf,F7 _ _ (q1 ⟨aa,ae⟩) (by decide),Nat.xor_zero]
 ·have aB:n%18446744073709551616*2%18446744073709551616=((18446744073709551615-hb n:Nat):Int):=by unfold hb;rw[if_neg hn];omega
  have bf:n/ 9223372036854775808%18446744073709551616=((18446744073709551615:Nat):Int):=by omega
  have aS:=q1 ⟨aa,ae⟩
  rw[aB,bf,F7 _ _ (by omega) (by decide),OY _ (by omega)]
  omega
theorem OZ{n:Int}(h:hH n):(bif decide (n<0)then jE .u64 18446744073709551615 (IntKind.u64.wrap (IntKind.u64.wrap n*2))else IntKind.u64.wrap (IntKind.u64.wrap n*2))=((hb n:Nat):Int):=by
 obtain⟨aa,ae⟩:=h
 rw[pQ,pQ]
 by_cases hn:0≤n
 ·have iY:decide (n<0)=false:=decide_eq_false (by omega)
  rw[iY];show n%18446744073709551616*2%18446744073709551616=((hb n:Nat):Int);unfold hb;rw[if_pos hn];omega
 ·have iY:decide (n<0)=true:=decide_eq_true (by omega)
  have aB:n%18446744073709551616*2%18446744073709551616=((18446744073709551615-hb n:Nat):Int):=by unfold hb;rw[if_neg hn];omega
  have aS:=q1 ⟨aa,ae⟩
  rw[iY,cond_true,aB,show(18446744073709551615:Int)=((18446744073709551615:Nat):Int)from rfl,F7 _ _ (by decide) (by omega),Nat.xor_comm,OY _ (by omega)]
  omega
theorem XJ: ∀a,a<256→a ||| 128=a%128+128:=by decide+kernel
theorem XK(u:Nat):kS .u8 (IntKind.u8.wrap (u:Int)) 128=((u%128+128:Nat):Int):=by
 have e:IntKind.u8.wrap (u:Int)=((u%256:Nat):Int):=by rw[IntKind.wrap_u8'];omega
 rw[e,show(128:Int)=((128:Nat):Int)from rfl,XH _ _ (by omega) (by decide),XJ _ (by omega)]
 omega
theorem XL(u:Nat):IntKind.u8.wrap (IntKind.u8.wrap ((u:Int).tmod 128)+128)=((u%128+128:Nat):Int):=by
 rw[Int.tmod_eq_emod_of_nonneg (by omega),IntKind.wrap_u8',IntKind.wrap_u8']
 omega
theorem O0{R A:Type}{b:A→Step R A}{f:Nat}{x y:A}(h:b x= .cO y):c5 b (f+1) x= .inr y:=by
 unfold c5
 rw[h]
theorem O1{R A:Type}{b:A→Step R A}{f:Nat}{x y:A}(h:b x= .br y):c5 b (f+1) x=c5 b f y:=by
 conv=>lhs;unfold c5
 rw[h]
def kt(u:Nat):ByteArray:=bytesOf ((kT 9 u).map fun b:Nat=>(b:Int))
theorem O2: ∀(l:List Int) (s:ByteArray),(l.foldl (fun r n=>r.push (UInt8.ofNat n.toNat)) s).data.toList=s.data.toList++l.map fun n=>UInt8.ofNat n.toNat
 |[],s=>by simp
 |n::l,s=>by
  rw[List.foldl_cons,O2 l,ByteArray.data_push,Array.toList_push,List.map_cons,List.append_assoc,List.singleton_append]
theorem O3(l:List Int):(bytesOf l).data.toList=l.map fun n=>UInt8.ofNat n.toNat:=by
 unfold bytesOf
 rw[O2]
 rfl
theorem ub(l:List Int):(bytesOf l).size=l.length:=by
 have h:=congrArg List.length (O3 l)
 rw[List.length_map,Array.length_toList]at h
 exact h
theorem BP{a b:ByteArray}(h:a.data.toList=b.data.toList):a=b:=ByteArray.ext (Array.toList_inj.1 h)
def yE(l:List Nat):List UInt8:=l.map UInt8.ofNat
theorem XM(u:Nat):(kt u).data.toList=yE (kT 9 u):=by
 unfold kt yE
 rw[O3,List.map_map]
 rfl
theorem XN(f u:Nat):(kT f u).length≤f+1:=by
 induction f generalizing u with
 |zero=>exact Nat.le_refl _
 |succ f aY=>
  unfold kT
  split
  ·simp
  ·have:=aY (u/ 128)
   simp only[List.length_cons];omega
theorem O4(u:Nat):(kt u).size=(kT 9 u).length:=by
 unfold kt
 rw[ub,List.length_map]
theorem F8(k:Nat):128^k=2^(7*k):=by rw[Nat.pow_mul]
theorem O5{k acc c:Nat}(aj:k≤9)(hc:c<256)(a1:acc<128^k)(hd:c%128*128^k<18446744073709551616):
 kS .u64 (acc:Int) (IntKind.u64.wrap ((IntKind.u64.wrap (lA .u8 (c:Int) 127))*2^(min (IntKind.i64.wrap (7*(k:Int))).toNat 64)))=((acc+c%128*128^k:Nat):Int):=by
 have aB:lA .u8 (c:Int) 127=((c%128:Nat):Int):=by
  rw[show(127:Int)=((127:Nat):Int)from rfl,OX _ _ hc (by decide),nat_mask7]
 have bf:min (IntKind.i64.wrap (7*(k:Int))).toNat 64=7*k:=by
  rw[gR _ (by omega) (by omega)]
  omega
 have ck:IntKind.u64.wrap ((c%128:Nat):Int)=((c%128:Nat):Int):=by rw[pQ];omega
 have ep:(((c%128:Nat):Int)*2^(7*k))=((c%128*128^k:Nat):Int):=by
  rw[F8];push_cast;rfl
 have ak:128^k≤128^9:=Nat.pow_le_pow_right (by decide) aj
 rw[aB,bf,ck,ep,pQ]
 have ku:((c%128*128^k:Nat):Int)%18446744073709551616=((c%128*128^k:Nat):Int):=by omega
 rw[ku,XF _ _ (by(have:(128:Nat)^9=9223372036854775808:=(by decide));omega) hd]
 rw[Nat.or_comm,nat_join (7*k) _ _ (by rw[F8];exact Nat.mul_mod_left _ _) (by rw[←F8];exact a1),Nat.add_comm]
theorem F9(e:UInt8):e.toNat<256:=e.toNat_lt
theorem O6{s:ByteArray}{k:Nat}{e:UInt8}{acc:Nat}(he:s.data.toList[k]? =some e)(aj:k≤9)(a1:acc<128^k):qY s k (acc:Int)=
 if(0<k∧e.toNat=0)∨(k=9∧1<e.toNat)then .ret (0,0,4)else if e.toNat<128 then .ret (((acc+e.toNat%128*128^k:Nat):Int),((k+1:Nat):Int),0)else .br ((acc+e.toNat%128*128^k:Nat):Int):=by
 have hu:=F9 e
 unfold qY
 dsimp only
 rw[he]
 dsimp only
 rw[cond_eq_ite]
 by_cases aa:(0<k∧e.toNat=0)∨(k=9∧1<e.toNat)
 ·rw[if_pos aa,if_pos]
  simp only[Bool.or_eq_true,Bool.and_eq_true,decide_eq_true_eq,beq_iff_eq];omega
 ·have hd:e.toNat%128*128^k<18446744073709551616:=by
   rcases Nat.lt_or_ge k 9 with gF|gF
   ·have ak:128^k≤128^8:=Nat.pow_le_pow_right (by decide) (by omega)
    have:e.toNat%128*128^k≤127*128^8:=Nat.mul_le_mul (by omega) ak
    exact Nat.lt_of_le_of_lt this (by decide)
   ·have yF:k=9:=by omega
    subst yF
    have:e.toNat%128*128^9≤1*128^9:=Nat.mul_le_mul (by omega) (Nat.le_refl _)
    exact Nat.lt_of_le_of_lt this (by decide)
  rw[if_neg aa,if_neg (by
   simp only[Bool.or_eq_true,Bool.and_eq_true,decide_eq_true_eq,beq_iff_eq]
   omega),O5 aj hu a1 hd,cond_eq_ite]
  by_cases ae:e.toNat<128
  ·rw[if_pos ae,if_pos (by rw[decide_eq_true_eq];omega)]
  ·rw[if_neg ae,if_neg (by rw[decide_eq_true_eq];omega)]
theorem O7{s:ByteArray}: ∀(m k acc:Nat) (U N:Int),k+m=s.size→acc<128^k→k≤9→bo (qY s) k m (acc:Int)= .inl (U,N,0)→
 ∃(u:Nat) (t:List UInt8),U=((acc+u*128^k:Nat):Int)∧s.data.toList.drop k=yE (kT (9-k) u)++t∧N=((k+(kT (9-k) u).length:Nat):Int)∧(0<k→0<u)∧acc+u*128^k<18446744073709551616
 |0,k,acc,U,N,_,_,_,h=>by simp[bo]at h
 |m+1,k,acc,U,N,ai,a1,aj,h=>by
  have bH:k<s.data.toList.length:=by
   have:s.data.toList.length=s.size:=rfl
   omega
  obtain⟨e,he⟩: ∃e,s.data.toList[k]? =some e:=⟨_,List.getElem?_eq_getElem bH⟩
  have O8:s.data.toList.drop k=e::s.data.toList.drop (k+1):=by
   rw[List.drop_eq_getElem_cons bH]
   congr 1
   rw[List.getElem?_eq_getElem bH]at he
   exact Option.some.inj he
  have zjA:=F9 e
  have O9:128^(k+1)=128*128^k:=by rw[Nat.pow_succ,Nat.mul_comm]
  have zjB:128^k≤128^9:=Nat.pow_le_pow_right (by decide) aj
  have Ga:(128:Nat)^9=9223372036854775808:=by decide
  unfold bo at h;rw[O6 he aj a1]at h
  split at h
  ·rename_i r ag
   split at ag
   ·cases ag;cases h
   ·rename_i aI
    split at ag
    ·rename_i hc
     cases ag;simp only[Sum.inl.injEq,Prod.mk.injEq]at h;obtain⟨rfl,rfl,_⟩:=h
     have aw:kT (9-k) e.toNat=[e.toNat]:=by
      rcases Nat.lt_or_ge k 9 with gF|gF
      ·obtain⟨f,hf⟩: ∃f,9-k=f+1:=⟨8-k,by omega⟩
       rw[hf];unfold kT;rw[if_pos hc]
      ·rw[show 9-k=0 by omega];rfl
     have uc:acc+e.toNat*128^k<18446744073709551616:=by
      rcases Nat.lt_or_ge k 9 with gF|gF
      ·have ak:128^k≤128^8:=Nat.pow_le_pow_right (by decide) (by omega)
       have ae:e.toNat*128^k≤127*128^8:=Nat.mul_le_mul (by omega) ak
       have sw:127*(128:Nat)^8=9151314442816847872:=by decide
       omega
      ·have yF:k=9:=by omega
       subst yF
       have:e.toNat*128^9≤1*128^9:=Nat.mul_le_mul (by omega) (Nat.le_refl _)
       omega
     refine⟨e.toNat,s.data.toList.drop (k+1),by rw[Nat.mod_eq_of_lt hc],?_,by rw[aw];rfl,fun aM=>by omega,uc⟩
     rw[aw,O8];simp[yE]
    ·cases ag
  ·rename_i a ag
   split at ag
   ·cases ag
   ·split at ag<;>cases ag
  ·rename_i a ag
   split at ag
   ·cases ag
   ·rename_i aI
    split at ag
    ·cases ag
    ·rename_i hc
     cases ag
     have Pb:k≤8:=by
      rcases Nat.lt_or_ge k 9 with gF|gF
      ·omega
      ·exact absurd (Or.inr ⟨by omega,by omega⟩) aI
     have yG:acc+e.toNat%128*128^k<128^(k+1):=by
      have:e.toNat%128*128^k≤127*128^k:=Nat.mul_le_mul (by omega) (Nat.le_refl _)
      omega
     obtain⟨u,t,aa,ae,au,aQ,bF⟩:=O7 m (k+1) (acc+e.toNat%128*128^k) U N (by omega) yG (by omega) h
     have zjC:=aQ (by omega)
     have yH:acc+e.toNat%128*128^k+u*128^(k+1)=acc+(e.toNat%128+u*128)*128^k:=by
      rw[O9,Nat.add_mul,Nat.add_assoc,Nat.mul_assoc]
     have aw:kT (9-k) (e.toNat%128+u*128)=e.toNat::kT (9-(k+1)) u:=by
      rw[show 9-k=(9-(k+1))+1 by omega]
      conv=>lhs;unfold kT
      rw[if_neg (by omega)]
      congr 1
      ·omega
      ·congr 1
       omega
     refine⟨e.toNat%128+u*128,t,by rw[aa,yH],?_,?_,fun _=>by omega,by rw[←yH];exact bF⟩
     ·rw[aw,O8,ae]
      simp[yE]
     ·rw[aw,au,List.length_cons]
      congr 1
      omega
theorem Pc{s:ByteArray}{U N:Int}(h:jW s=(U,N,0)): ∃(u:Nat) (t:ByteArray),U=(u:Int)∧s=kt u++t∧N=(((kt u).size:Nat):Int)∧u<18446744073709551616:=by
 unfold jW at h
 split at h
 ·rename_i r ag
  subst h;unfold yz at ag;obtain⟨u,t,aa,ae,au,_,bF⟩:=O7 s.size 0 0 U N (by omega) (by decide) (by decide) ag
  refine⟨u,⟨t.toArray⟩,by rw[aa];simp,BP ?_,by rw[au,O4];simp,by omega⟩
  rw[ByteArray.data_append,Array.toList_append,XM];simpa using ae
 ·simp at h
theorem XO(k:IntKind)(a b:Int):jE k a b=jE k b a:=by
 unfold jE
 rw[BitVec.xor_comm]
theorem XP(a:Nat)(h:a<9223372036854775808):jE .i64 (a:Int) 0=(a:Int):=by
 unfold jE
 have e:BitVec.ofInt IntKind.i64.bits (0:Int)=0#_:=rfl
 rw[e,BitVec.xor_zero]
 have:(BitVec.ofInt 64 (a:Int)).toNat=a:=ofInt_u64 a (by omega)
 show IntKind.i64.wrap (((BitVec.ofInt 64 (a:Int)).toNat:Nat):Int)=_
 rw[this,gR _ (by omega) (by omega)]
theorem XQ(a:Nat)(h:a<9223372036854775808):jE .i64 (a:Int) (-1)= -1-(a:Int):=by
 rw[XO]
 exact i64_not a h
theorem XR{u:Nat}(h:u<18446744073709551616):jE .i64 (IntKind.i64.wrap ((u:Int).fdiv 2)) (IntKind.i64.wrap (0-IntKind.i64.wrap (lA .u64 (u:Int) 1)))=yD u:=by
 have aB:IntKind.i64.wrap ((u:Int).fdiv 2)=((u/ 2:Nat):Int):=by
  rw[Int.fdiv_eq_ediv_of_nonneg _ (by decide),gR _ (by omega) (by omega)]
  omega
 have bf:lA .u64 (u:Int) 1=((u%2:Nat):Int):=by
  rw[show(1:Int)=((1:Nat):Int)from rfl,XG _ _ h (by decide),nat_mask1]
 rw[aB,bf]
 unfold yD
 split
 ·rename_i aM
  rw[aM];exact XP _ (by omega)
 ·rename_i aM
  rw[show u%2=1 by omega]
  exact XQ _ (by omega)
theorem XS{r:Rd}(h:kq r≠0):dn r=(0,r):=by
 unfold dn
 rw[show(kq r != 0)=true by simpa using h]
 rfl
end Go.aL
namespace Go.aL
open Go Go.aL Go.eL
theorem XT{v:cf}(h:nz v=0):v.s.size≤60:=by
 unfold nz at h
 simp only[cond_eq_ite]at h
 repeat' split at h
 all_goals first
  |(cases h;done)
  |(rename_i aI _;simp at aI;omega)
  |(rename_i aI;simp at aI;omega)
theorem XU{a b:ByteArray}:dF a b=true↔a=b:=by rw[vV];simp
theorem Pd{v:cf}(h:nz v=0):(v.kind=0∧v.n=0∧v.s=⟨#[]⟩)∨((v.kind=1∨v.kind=2∨v.kind=3)∧v.s=⟨#[]⟩∧ -1099511627776≤v.n∧v.n≤1099511627776)∨(v.kind=4∧v.n=0∧v.s.size≤60):=by
 have bN:=XT h
 unfold nz at h
 cases dp:(((v.kind==0)||(v.kind==4))||((v.kind==1)||((v.kind==2)||(v.kind==3))))with
 |false=>rw[dp]at h;cases h
 |true=>
  rw[dp]at h
  cases gS:(bif((v.kind==0)||(v.kind==4))then(v.n==0)else(bif(v.kind==1)then((v.n==0)||(v.n==1))else(bif(v.kind==2)then yA v.n else(decide (v.n≥0)&&decide (v.n≤63)))))with
  |false=>rw[gS]at h;cases h
  |true=>
   rw[gS]at h;simp only[cond_true,Bool.not_true,cond_false]at h;simp only[cond_eq_ite]at h
   split at h
   ·cases h
   ·split at h
    ·cases h
    ·rename_i au
     have ai:v.kind≠4→v.s=⟨#[]⟩:=fun aj=>by
      simp only[Bool.and_eq_true,bne_iff_ne,ne_eq,not_and,Decidable.not_not,Bool.not_eq_true']at au
      cases aI:dF v.s ⟨#[]⟩with
      |true=>exact XU.1 aI
      |false=>exact absurd (au aI) aj
     simp only[Bool.or_eq_true,beq_iff_eq]at dp
     rcases dp with (aM|aQ)|aa|ae|au
     ·exact .inl ⟨aM,by simpa[aM]using gS,ai (by omega)⟩
     ·exact .inr (.inr ⟨aQ,by simpa[aQ]using gS,bN⟩)
     ·refine .inr (.inl ⟨.inl aa,ai (by omega),?_⟩)
      simp[aa]at gS;omega
     ·refine .inr (.inl ⟨.inr (.inl ae),ai (by omega),?_⟩)
      simp[ae,yA]at gS;omega
     ·refine .inr (.inl ⟨.inr (.inr au),ai (by omega),?_⟩)
      simp[au]at gS;omega
def vW(r:Rd):cf × Rd:=
 if(dn r).1=1∨(dn r).1=2∨(dn r).1=3 then(⟨(dn r).1,(dn (dn r).2).1,⟨#[]⟩⟩,(dn (dn r).2).2)
 else if(dn r).1=4 then(⟨(dn r).1,0,(kr (dn r).2 60).1⟩,(kr (dn r).2 60).2)else(⟨(dn r).1,0,⟨#[]⟩⟩,(dn r).2)
theorem Gb(r:Rd):yB r=(vW r).1∧tX r=(vW r).2:=by
 unfold yB tX vW
 simp only[cond_eq_ite,Bool.or_eq_true,beq_iff_eq]
 split
 ·exact⟨rfl,rfl⟩
 ·split<;>exact⟨rfl,rfl⟩
end Go.aL
namespace Go.aL
open Go Go.aL Go.eL
theorem BQ{r:dK}(h:jF r):jF (du r).2:=by
 unfold du
 cases (gp r != 0)with
 |true=>exact h
 |false=>
  simp only[cond_false]
  split
  ·rename_i q aI
   have key: ∀(m k:Nat) (a:Int) (q:Int × dK),k+m≤10→bo (nA r) k m a= .inl q→jF q.2:=by
    intro m
    induction m with
    |zero=>intro k a r _ h;simp[bo]at h
    |succ m aY=>
     intro k a q aj aq;unfold bo at aq
     split at aq
     ·rename_i q' ad
      simp only[Sum.inl.injEq]at aq;subst aq;obtain⟨aa,ae,au⟩:=h;unfold nA at ad;simp only[cond_eq_ite,decide_eq_true_eq]at ad
      have cK:IntKind.i64.wrap (r.at_+(k:Int))=r.at_+(k:Int):=gR _ (by omega) (by omega)
      rw[cK]at ad
      split at ad
      ·cases ad;exact⟨aa,ae,au⟩
      ·rename_i bH
       have dI:IntKind.i64.wrap (r.at_+(k:Int)+1)=r.at_+(k:Int)+1:=gR _ (by omega) (by omega)
       rw[dI]at ad
       split at ad
       ·split at ad
        ·cases ad;exact⟨aa,ae,au⟩
        ·split at ad
         ·cases ad;exact⟨by first|omega|(dsimp only;omega),by first|omega|(dsimp only;omega),au⟩
         ·cases ad
       ·cases ad
     ·cases aq
     ·exact aY _ _ _ (by omega) aq
   exact key _ _ _ _ (by omega) aI
  ·exact h
theorem BR(r:dK)(n:Int):0≤(dw r n).1:=by
 unfold dw
 cases dp:(gp ((du r).2) != 0)with
 |true=>exact Int.le_refl _
 |false=>
  simp only[cond_false]
  cases gS:decide ((du r).1<0)with
  |true=>exact Int.le_refl _
  |false=>
   have gS:=of_decide_eq_false gS
   simp only[cond_false,cond_eq_ite]
   repeat' split
   all_goals first|exact Int.le_refl _|omega|(dsimp only;omega)
theorem Gc{r:dK}{n:Int}(h:jF r):jF (dw r n).2:=by
 have h:=BQ h
 unfold dw
 simp only[cond_eq_ite]
 repeat' split
 all_goals exact h
theorem Gd{r:dK}{n:Int}(h:jF r):jF (lB r n).2:=by
 have h:=Gc (n:=n) h
 have hn:=BR r n
 unfold lB
 generalize hc:dw r n=c at*
 obtain⟨aa,ae,au⟩:=h
 have cK:IntKind.i64.wrap ((c.2.s.size:Int)-c.2.at_)=(c.2.s.size:Int)-c.2.at_:=gR _ (by omega) (by omega)
 rw[cK]
 simp only[cond_eq_ite,decide_eq_true_eq]
 repeat' split
 ·exact⟨aa,ae,au⟩
 ·exact⟨aa,ae,au⟩
 ·have dI:IntKind.i64.wrap (c.2.at_+c.1)=c.2.at_+c.1:=gR _ (by omega) (by omega)
  rw[dI];exact⟨by first|omega|(dsimp only;omega),by first|omega|(dsimp only;omega),au⟩
theorem vX(s:ByteArray)(n:Nat):(s.extract n s.size).data.toList=s.data.toList.drop n:=by
 rw[ByteArray.data_extract,Array.toList_extract]
 have ai:s.size=s.data.toList.length:=rfl
 rw[ai]
 simp[List.extract]
 rw[List.take_of_length_le (l:=List.drop n s.data.toList) (by rw[List.length_drop];exact Nat.le_refl _)]
theorem Pe(s:ByteArray)(n j:Nat):(s.extract n s.size).extract j (s.extract n s.size).size=s.extract (n+j) s.size:=BP (by
 rw[vX,vX,vX,List.drop_drop])
def iF(r:Rd)(q:dK):Prop:=jF q∧r=⟨q.s.extract q.at_.toNat q.s.size,q.bad,q.made⟩
theorem sx{r:Rd}{q:dK}(h:iF r q):kq r=gp q:=by
 rw[h.2]
 rfl
theorem XV{q:dK}(an:jF q){k acc:Nat}(aj:k≤9)(a1:acc<128^k){e:UInt8}(he:(q.s.extract q.at_.toNat q.s.size).data.toList[k]? =some e):nA q k (acc:Int)=
 if(0<k∧e.toNat=0)∨(k=9∧1<e.toNat)then .ret (0,⟨q.s,q.at_,4,q.made⟩)else if e.toNat<128 then .ret (yD (acc+e.toNat%128*128^k),⟨q.s,q.at_+((k+1:Nat):Int),q.bad,q.made⟩)else .br ((acc+e.toNat%128*128^k:Nat):Int):=by
 obtain⟨aa,ae,au⟩:=an
 have hu:=F9 e
 rw[vX,List.getElem?_drop]at he
 have bH:q.at_.toNat+k<q.s.size:=(List.getElem?_eq_some_iff.1 he).1
 have cK:IntKind.i64.wrap (q.at_+(k:Int))=q.at_+(k:Int):=gR _ (by omega) (by omega)
 have dI:IntKind.i64.wrap (q.at_+(k:Int)+1)=q.at_+((k+1:Nat):Int):=by rw[gR _ (by omega) (by omega)];omega
 have yI:(q.at_+(k:Int)).toNat=q.at_.toNat+k:=by omega
 unfold nA
 dsimp only
 rw[cK,decide_eq_false (show ¬q.at_+(k:Int)≥(q.s.size:Int)by omega),cond_false,yI,he]
 dsimp only
 rw[dI]
 have XW:(e.toNat:Int).tmod 128=lA .u8 (e.toNat:Int) 127:=by
  rw[show(127:Int)=((127:Nat):Int)from rfl,OX _ _ hu (by decide),nat_mask7,Int.tmod_eq_emod_of_nonneg (by omega)]
  omega
 rw[XW,cond_eq_ite]
 by_cases aa:(0<k∧e.toNat=0)∨(k=9∧1<e.toNat)
 ·rw[if_pos aa,if_pos]
  simp only[Bool.or_eq_true,Bool.and_eq_true,decide_eq_true_eq,beq_iff_eq];omega
 ·have hd:e.toNat%128*128^k<9223372036854775808*2∧acc+e.toNat%128*128^k<18446744073709551616:=by
   rcases Nat.lt_or_ge k 9 with gF|gF
   ·have ak:128^k≤128^8:=Nat.pow_le_pow_right (by decide) (by omega)
    have:e.toNat%128*128^k≤127*128^8:=Nat.mul_le_mul (by omega) ak
    have sw:(128:Nat)^8=72057594037927936:=by decide
    omega
   ·have yF:k=9:=by omega
    subst yF
    have:e.toNat%128*128^9≤1*128^9:=Nat.mul_le_mul (by omega) (Nat.le_refl _)
    have Ga:(128:Nat)^9=9223372036854775808:=by decide
    omega
  rw[if_neg aa,if_neg (by
   simp only[Bool.or_eq_true,Bool.and_eq_true,decide_eq_true_eq,beq_iff_eq]
   omega),O5 aj hu a1 (by omega),cond_eq_ite]
  by_cases ae:e.toNat<128
  ·rw[if_pos ae,if_pos (by rw[decide_eq_true_eq];omega)]
   generalize acc+e.toNat%128*128^k=Z at*
   have v1:IntKind.i64.wrap ((Z:Int).fdiv 2)=((Z/ 2:Nat):Int):=by
    rw[Int.fdiv_eq_ediv_of_nonneg _ (by decide),gR _ (by omega) (by omega)]
    omega
   have v2:(Z:Int).tmod 2=((Z%2:Nat):Int):=by rw[Int.tmod_eq_emod_of_nonneg (by omega)];omega
   rw[v1,v2];unfold yD
   by_cases aM:Z%2=0
   ·rw[if_pos aM,aM]
    rfl
   ·rw[if_neg aM,show Z%2=1 by omega,gR _ (by omega) (by omega)]
    rfl
  ·rw[if_neg ae,if_neg (by rw[decide_eq_true_eq];omega)]
theorem XX{q:dK}(an:jF q){k:Nat}{acc:Int}(aj:k≤9)(he:q.s.size≤q.at_.toNat+k):nA q k acc= .ret (0,⟨q.s,q.at_,5,q.made⟩):=by
 obtain⟨aa,ae,au⟩:=an
 have cK:IntKind.i64.wrap (q.at_+(k:Int))=q.at_+(k:Int):=gR _ (by omega) (by omega)
 unfold nA
 dsimp only
 rw[cK,decide_eq_true (show q.at_+(k:Int)≥(q.s.size:Int)by omega)]
 rfl
theorem Pf{q:dK}(an:jF q): ∀(m k acc:Nat),k+m=10→k≤9→acc<128^k→k≤(q.s.extract q.at_.toNat q.s.size).size→
 bo (nA q) k m (acc:Int)=match bo (qY (q.s.extract q.at_.toNat q.s.size)) k ((q.s.extract q.at_.toNat q.s.size).size-k) (acc:Int)with
  | .inl (U,N,E)=>if E=0 then .inl (yD U.toNat,⟨q.s,q.at_+N,q.bad,q.made⟩)else .inl (0,⟨q.s,q.at_,E,q.made⟩)
  | .inr _=>.inl (0,⟨q.s,q.at_,5,q.made⟩)
 |0,k,acc,hm,aj,_,_=>by omega
 |m+1,k,acc,hm,aj,a1,bN=>by
  have zjD:(q.s.extract q.at_.toNat q.s.size).size=q.s.size-q.at_.toNat:=by rw[ByteArray.size_extract];omega
  rcases Nat.lt_or_ge k (q.s.extract q.at_.toNat q.s.size).size with bH|hX
  ·obtain⟨e,he⟩: ∃e,(q.s.extract q.at_.toNat q.s.size).data.toList[k]? =some e:=⟨_,List.getElem?_eq_getElem (by exact bH)⟩
   have ak:0<128^k:=Nat.pow_pos (by decide)
   obtain⟨j,af⟩: ∃j,(q.s.extract q.at_.toNat q.s.size).size-k=j+1:=⟨(q.s.extract q.at_.toNat q.s.size).size-k-1,by omega⟩
   rw[af];unfold bo;rw[XV an aj a1 he,O6 he aj a1]
   by_cases aa:(0<k∧e.toNat=0)∨(k=9∧1<e.toNat)
   ·rw[if_pos aa,if_pos aa]
    rfl
   ·rw[if_neg aa,if_neg aa]
    by_cases ae:e.toNat<128
    ·rw[if_pos ae,if_pos ae]
     dsimp only;rw[if_pos rfl,Int.toNat_natCast]
    ·rw[if_neg ae,if_neg ae]
     dsimp only
     have O9:128^(k+1)=128*128^k:=by rw[Nat.pow_succ,Nat.mul_comm]
     have yG:acc+e.toNat%128*128^k<128^(k+1):=by
      have:e.toNat%128*128^k≤127*128^k:=Nat.mul_le_mul (by omega) (Nat.le_refl _)
      omega
     have Pb:k+1≤9:=by
      rcases Nat.lt_or_ge k 9 with gF|gF
      ·omega
      ·exact absurd (Or.inr ⟨by omega,by omega⟩) aa
     rw[Pf an m (k+1) _ (by omega) Pb yG (by omega),show(q.s.extract q.at_.toNat q.s.size).size-(k+1)=j by omega]
  ·rw[show(q.s.extract q.at_.toNat q.s.size).size-k=0 by omega]
   unfold bo;rw[XX an aj (by omega)]
def BS{α:Type}(R:Rd→α × Rd)(S:dK→α × dK):Prop:=∀r q,iF r q→(R r).1=(S q).1∧iF (R r).2 (S q).2
theorem XY{q:dK}(h:gp q≠0):du q=(0,q):=by
 unfold du
 rw[show(gp q != 0)=true by simpa using h]
 rfl
theorem vY:BS dn du:=by
 intro r q h
 have ag:=h
 by_cases aM:gp q=0
 ·have gT:=BQ h.1
  have ak:=h.1
  obtain⟨an,rfl⟩:=h;unfold du F6 at gT⊢;unfold dn;rw[sx ag,aM];rw[aM]at gT;simp only[bne_self_eq_false,cond_false]at gT⊢
  have aq:=Pf an 10 0 0 (by omega) (by omega) (by decide) (by omega)
  rw[Nat.sub_zero]at aq;rw[show((0:Nat):Int)=0 from rfl]at aq
  rw[aq]at gT⊢;generalize ai:q.s.extract q.at_.toNat q.s.size=rest at*;unfold jW yz
  cases aw:bo (qY rest) 0 rest.size 0 with
  |inr a=>
   rw[aw]at gT;dsimp only at gT⊢;exact⟨rfl,gT,by rw[←ai];rfl⟩
  |inl p=>
   obtain⟨U,N,E⟩:=p;rw[aw]at gT;dsimp only at gT⊢
   by_cases e3:E=0
   ·subst e3
    have XZ:jW rest=(U,N,0):=by
     unfold jW yz;rw[aw]
    obtain⟨u,t,sy,aH,gU,hu⟩:=Pc XZ;subst sy gU;rw[if_pos rfl]at gT⊢;dsimp only at gT⊢
    have mP:rest.extract ((((kt u).size:Nat):Int)).toNat rest.size=q.s.extract (q.at_+(((kt u).size:Nat):Int)).toNat q.s.size:=by
     rw[←ai,Pe,Int.toNat_natCast]
     have:=ak.1
     congr 1
     omega
    refine⟨?_,gT,?_⟩
    ·show jE .i64 _ _=_
     rw[XR hu,Int.toNat_natCast]
    ·show(⟨rest.extract ((((kt u).size:Nat):Int)).toNat rest.size,q.bad,q.made⟩:Rd)=_
     rw[mP]
   ·rw[if_neg e3]at gT⊢
    rw[show(E != 0)=true by simpa using e3]
    exact⟨rfl,gT,by rw[←ai];rfl⟩
 ·rw[XY aM,XS (by rw[sx h];exact aM)]
  exact⟨rfl,h⟩
theorem Pg{r:Rd}{q:dK}(h:iF r q):(r.rest.size:Int)=(q.s.size:Int)-q.at_:=by
 obtain⟨⟨aa,ae,au⟩,rfl⟩:=h
 show(((q.s.extract q.at_.toNat q.s.size).size:Nat):Int)=_
 rw[ByteArray.size_extract]
 omega
theorem X0(n:Int):BS (fun r=>ha r n) (fun q=>dw q n):=by
 intro r q h
 obtain⟨aa,ae⟩:=vY r q h
 show(ha r n).1=(dw q n).1∧iF (ha r n).2 (dw q n).2
 unfold ha dw
 rw[sx ae,aa]
 have hm:(if 0>n then(0:Int)else n)=bif decide (n<0)then 0 else n:=by
  rw[cond_eq_ite]
  by_cases hn:n<0
  ·rw[if_pos hn,if_pos (decide_eq_true hn)]
  ·rw[if_neg hn,if_neg (by simpa using hn)]
 rw[hm]
 have aj: ∀e:Int,iF ⟨(dn r).2.rest,e,(dn r).2.made⟩ ⟨(du q).2.s,(du q).2.at_,e,(du q).2.made⟩:=fun e=>by
  obtain⟨an,ag⟩:=ae;refine⟨an,?_⟩
  rw[ag]
 cases (gp (du q).2 != 0)with
 |true=>exact⟨rfl,ae⟩
 |false=>
  simp only[cond_false]
  cases decide ((du q).1<0)with
  |true=>exact⟨rfl,aj 4⟩
  |false=>
   simp only[cond_false]
   cases decide ((du q).1>bif decide (n<0)then 0 else n)with
   |true=>exact⟨rfl,aj 3⟩
   |false=>exact⟨rfl,ae⟩
theorem X1(s:ByteArray)(n j:Nat)(h:n+j≤s.size):(s.extract n s.size).extract 0 j=s.extract n (n+j):=BP (by
 rw[ByteArray.data_extract,Array.toList_extract,vX,ByteArray.data_extract,Array.toList_extract]
 have ai:s.size=s.data.toList.length:=rfl
 simp only[List.extract,List.drop_zero,Nat.sub_zero]
 rw[show n+j-n=j by omega])
theorem yJ(n:Int):BS (fun r=>kr r n) (fun q=>lB q n):=by
 intro r q h
 obtain⟨aa,ae⟩:=X0 n r q h
 have zjE:=BR q n
 show(kr r n).1=(lB q n).1∧iF (kr r n).2 (lB q n).2
 have gT:=Gd (n:=n) h.1
 unfold lB at gT⊢
 unfold kr
 dsimp only at aa ae
 rw[sx ae,aa]
 have bN:=Pg ae
 obtain⟨an,ag⟩:=ae
 obtain⟨yK,Ge,Ph⟩:=an
 generalize dw q n=c at*
 rw[ag]at bN⊢
 generalize hd:ha r n=d at*
 have cK:IntKind.i64.wrap ((c.2.s.size:Int)-c.2.at_)=(c.2.s.size:Int)-c.2.at_:=gR _ (by omega) (by omega)
 rw[cK]at gT⊢
 dsimp only at bN⊢
 rw[bN]
 cases e3:(gp c.2 != 0)with
 |true=>
  exact⟨rfl,⟨yK,Ge,Ph⟩,rfl⟩
 |false=>
  rw[e3]at gT;simp only[cond_false]at gT⊢
  by_cases ah:c.1>(c.2.s.size:Int)-c.2.at_
  ·rw[decide_eq_true ah]
   exact⟨rfl,⟨yK,Ge,Ph⟩,rfl⟩
  ·rw[decide_eq_false ah]at gT⊢
   simp only[cond_false]at gT⊢;refine⟨?_,gT,?_⟩
   ·rw[X1 _ _ _ (by omega)]
    congr 1
    omega
   ·have dI:IntKind.i64.wrap (c.2.at_+c.1)=c.2.at_+c.1:=gR _ (by omega) (by omega)
    rw[dI,Pe]
    have:c.2.at_.toNat+c.1.toNat=(c.2.at_+c.1).toNat:=by omega
    rw[this]
theorem X2{r:Rd}{q:dK}(e:Int)(h:iF r q):iF (sr r e) (yC q e):=by
 unfold sr yC
 rw[sx h]
 cases (gp q==0)with
 |true=>exact⟨h.1,by rw[h.2];rfl⟩
 |false=>exact h
theorem X3:BS sv vU:=by
 intro r q h
 obtain⟨aa,ae⟩:=vY r q h
 obtain⟨b6,a2⟩:=yJ 60 _ _ ae
 obtain⟨gq,iq⟩:=vY _ _ ae
 dsimp only at b6 a2
 have aw:(vW r).1=tZ q∧iF (vW r).2 (pP q):=by
  have X4:(mO q).kind=(du q).1:=by
   unfold mO
   cases ((du q).1==4)<;>rfl
  unfold vW tZ pP;rw[X4,aa]
  by_cases aQ:(du q).1=4
  ·rw[if_neg (by omega),if_pos aQ,show(decide ((du q).1≥1)&&decide ((du q).1≤3))=false by rw[aQ];rfl]
   simp only[cond_false];unfold mO tY;rw[show((du q).1==4)=true by simpa using aQ]
   simp only[cond_true];exact⟨by rw[b6],a2⟩
  ·have aB:mO q=⟨(du q).1,0,⟨#[]⟩⟩:=by
    unfold mO;rw[show((du q).1==4)=false by simpa using aQ]
    rfl
   have bf:tY q=(du q).2:=by
    unfold tY;rw[show((du q).1==4)=false by simpa using aQ]
    rfl
   rw[aB,bf]
   by_cases au:(du q).1=1∨(du q).1=2∨(du q).1=3
   ·rw[if_pos au,show(decide ((du q).1≥1)&&decide ((du q).1≤3))=true by simp;omega]
    simp only[cond_true];exact⟨by rw[gq],iq⟩
   ·rw[if_neg au,if_neg aQ,show(decide ((du q).1≥1)&&decide ((du q).1≤3))=false by simp;omega]
    exact⟨rfl,ae⟩
 obtain⟨v1,v2⟩:=aw
 have bF:iF (su r) (ua q):=by
  unfold su ua;rw[(Gb r).1,(Gb r).2,v1,OW]
  by_cases e3:gp (pP q)=0
  ·rw[show(gp (pP q)==0)=true by simpa using e3]
   simp only[Bool.true_and]
   cases (ss (tZ q) != 0)with
   |true=>exact X2 4 v2
   |false=>exact v2
  ·rw[show(gp (pP q)==0)=false by simpa using e3]
   simp only[Bool.false_and,cond_false]
   cases (ss (tZ q) != 0)with
   |true=>
    simp only[cond_true];unfold sr;rw[sx v2,show(gp (pP q)==0)=false by simpa using e3]
    exact v2
   |false=>exact v2
 unfold sv vU
 rw[sx bF,(Gb r).1,v1]
 cases (gp (ua q) != 0)with
 |true=>exact⟨rfl,bF⟩
 |false=>exact⟨rfl,bF⟩
theorem X5{r:Rd}{q:dK}(h:iF r q):pO r=BO q:=by
 have ai:=Pg h
 unfold pO F5 BO
 rw[sx h]
 cases e3:(gp q != 0)with
 |true=>rfl
 |false=>
  have aM:gp q=0:=OU e3
  simp only[cond_false];rw[ai,aM]
  by_cases aq:q.at_<(q.s.size:Int)
  ·rw[decide_eq_true aq,decide_eq_true (by omega)]
  ·rw[decide_eq_false aq,decide_eq_false (by omega)]
end Go.aL
namespace Go.aL
open Go Go.eL
theorem X6(u:Nat):bA .shr .u64 (u:Int) 7=((u/ 128:Nat):Int):=by
 show(u:Int).fdiv (2^(min (7:Int).toNat 64))=_
 rw[show(2:Int)^(min (7:Int).toNat 64)=128 from rfl,Int.fdiv_eq_ediv_of_nonneg _ (by decide)]
 omega
theorem X7{u:Nat}(h:u<18446744073709551616):bA .quo .u64 (u:Int) 128=((u/ 128:Nat):Int):=by
 show IntKind.u64.wrap ((u:Int).tdiv 128)=_
 rw[Int.tdiv_eq_ediv_of_nonneg (by omega),pQ]
 omega
def ud(R:Type)(c:Int × List Int):Step R (Int × List Int):=
 bif decide (c.1≥128)then .br (bA .shr .u64 c.1 7,List.append c.2 [bA .or .u8 (IntKind.wrap .u8 c.1) 128])else .cO (c.1,c.2)
def ue(R:Type)(c:Int × List Int):Step R (Int × List Int):=
 bif decide (c.1≥128)then .br (bA .quo .u64 c.1 128,List.append c.2 [IntKind.wrap .u8 (IntKind.wrap .u8 (bA .rem .u64 c.1 128)+128)])else .cO (c.1,c.2)
theorem X8(R:Type){u:Nat}(acc:List Int)(h:u<128):ud R ((u:Int),acc)= .cO ((u:Int),acc):=by
 unfold ud
 rw[show decide ((u:Int)≥128)=false from decide_eq_false (by omega)]
 rfl
theorem Pj(R:Type){u:Nat}(acc:List Int)(h: ¬u<128):ud R ((u:Int),acc)= .br (((u/ 128:Nat):Int),acc++[((u%128+128:Nat):Int)]):=by
 unfold ud
 rw[show decide ((u:Int)≥128)=true from decide_eq_true (by omega),cond_true,X6]
 show Step.br (_,acc++[kS .u8 (IntKind.u8.wrap (u:Int)) 128])=_
 rw[XK]
theorem X9(R:Type){u:Nat}(acc:List Int)(h:u<128):ue R ((u:Int),acc)= .cO ((u:Int),acc):=by
 unfold ue
 rw[show decide ((u:Int)≥128)=false from decide_eq_false (by omega)]
 rfl
theorem Pk(R:Type){u:Nat}(acc:List Int)(h: ¬u<128)(ae:u<18446744073709551616):ue R ((u:Int),acc)= .br (((u/ 128:Nat):Int),acc++[((u%128+128:Nat):Int)]):=by
 unfold ue
 rw[show decide ((u:Int)≥128)=true from decide_eq_true (by omega),cond_true,X7 ae]
 show Step.br (_,acc++[IntKind.u8.wrap (IntKind.u8.wrap ((u:Int).tmod 128)+128)])=_
 rw[XL]
theorem Pl{R:Type}{b:Int × List Int→Step R (Int × List Int)}(aq: ∀(u:Nat) acc,u<128→b ((u:Int),acc)= .cO ((u:Int),acc))
 (ah: ∀(u:Nat) acc,¬u<128→u<18446744073709551616→b ((u:Int),acc)= .br (((u/ 128:Nat):Int),acc++[((u%128+128:Nat):Int)])):
 ∀(f u F:Nat) (acc:List Int),u<128*128^f→u<18446744073709551616→f<F→∃(x:Nat) (l:List Int),c5 b F ((u:Int),acc)= .inr ((x:Int),acc++l)∧(kT f u).map (fun b:Nat=>(b:Int))=l++[(x:Int)]∧x<128
 |f,u,0,acc,h,_,hF=>absurd hF (Nat.not_lt_zero _)
 |f,u,F+1,acc,h,uc,hF=>by
  by_cases hu:u<128
  ·refine⟨u,[],by rw[O0 (aq u acc hu),List.append_nil],?_,hu⟩
   cases f with
   |zero=>rfl
   |succ f=>unfold kT;rw[if_pos hu];rfl
  ·cases f with
   |zero=>exact absurd h (by simpa using hu)
   |succ f=>
    have ae:u/ 128<128*128^f:=by
     rw[Nat.pow_succ]at h;omega
    obtain⟨x,l,aB,bf,ck⟩:=Pl aq ah f (u/ 128) F (acc++[((u%128+128:Nat):Int)]) ae (by omega) (by omega)
    refine⟨x,((u%128+128:Nat):Int)::l,?_,?_,ck⟩
    ·rw[O1 (ah u acc hu uc),aB,List.append_assoc,List.singleton_append]
    ·unfold kT
     rw[if_neg hu,List.map_cons,bf,List.cons_append]
theorem Pm{R:Type}{b:Int × List Int→Step R (Int × List Int)}(aq: ∀(u:Nat) acc,u<128→b ((u:Int),acc)= .cO ((u:Int),acc))
 (ah: ∀(u:Nat) acc,¬u<128→u<18446744073709551616→b ((u:Int),acc)= .br (((u/ 128:Nat):Int),acc++[((u%128+128:Nat):Int)])){u:Nat}(uc:u<18446744073709551616):
 ∃(x:Nat) (l:List Int),c5 b dV ((u:Int),[])= .inr ((x:Int),l)∧bytesOf (List.append l [IntKind.wrap .u8 (x:Int)])=kt u:=by
 obtain⟨x,l,aB,bf,ck⟩:=Pl aq ah 9 u dV [] (Nat.lt_of_lt_of_le uc (by decide)) uc (by decide)
 refine⟨x,l,aB,?_⟩
 unfold kt
 rw[bf,IntKind.wrap_u8',show(x:Int)%256=(x:Int)by omega]
 rfl
theorem Pn{n:Int}(h:hH n):bA .xor .u64 (bA .shl .u64 (IntKind.wrap .u64 n) 1) (IntKind.wrap .u64 (bA .shr .i64 n 63))=((hb n:Nat):Int):=by
 have:bA .shr .i64 n 63=n.fdiv 9223372036854775808:=rfl
 rw[this]
 exact XI h
theorem BT{n:Int}(h:hH n):fW n=kt (hb n):=by
 obtain⟨x,l,aB,bf⟩:=Pm (R:=ByteArray) (b:=ud ByteArray) (fun u acc=>X8 _ acc) (fun u acc h _=>Pj _ acc h) (q1 h)
 unfold fW
 rw[Pn h]
 show Sum.elim _ _ (c5 (ud ByteArray) dV (((hb n:Nat):Int),[]))=_
 rw[aB]
 exact bf
theorem Gf{n:Int}(h:hH n):fB n=kt (hb n):=by
 obtain⟨x,l,aB,bf⟩:=Pm (R:=ByteArray) (b:=ue ByteArray) (fun u acc=>X9 _ acc) (fun u acc h ae=>Pk _ acc h ae) (q1 h)
 have a1:=OZ h
 unfold fB
 dsimp only
 have key: ∀v:Int,v=((hb n:Nat):Int)→Sum.elim (fun r=>r) (fun bS:Int × List Int=>bytesOf (List.append bS.2 [IntKind.wrap .u8 bS.1])) (c5 (ue ByteArray) dV (v,[]))=kt (hb n):=by
  rintro v rfl
  rw[aB];exact bf
 cases hd:decide (n<0)with
 |true=>
  rw[hd,cond_true]at a1;exact key _ a1
 |false=>
  rw[hd,cond_false]at a1;exact key _ a1
theorem yL{u:Nat}:(kt u).size≤10:=by rw[O4];exact XN 9 u
def q2(d:Int × List Int):Prop:=∃(u f:Nat),d.1=(u:Int)∧u<18446744073709551616∧u<128*128^f∧d.2.length+f≤9
theorem Po{u:Nat}(h:u<18446744073709551616):q2 ((u:Int),[]):=⟨u,9,rfl,h,Nat.lt_of_lt_of_le h (by decide),Nat.le_refl _⟩
theorem Pp{u:Nat}{acc:List Int}(h:q2 ((u:Int),acc))(hu: ¬u<128):q2 (((u/ 128:Nat):Int),acc++[((u%128+128:Nat):Int)]):=by
 obtain⟨v,f,aa,ae,au,aQ⟩:=h
 have:u=v:=by have:(u:Int)=v:=aa;omega
 subst this
 cases f with
 |zero=>exact absurd au (by simpa using hu)
 |succ f=>
  have aQ:acc.length+(f+1)≤9:=aQ
  exact⟨u/ 128,f,rfl,by omega,by rw[Nat.pow_succ]at au;omega,by show(acc++[_]).length+f≤9;rw[List.length_append];simp;omega⟩
theorem BU{d:Int × List Int}(h:q2 d):d.2.length≤9:=by
 obtain⟨_,f,_,_,_,aQ⟩:=h
 omega
theorem Pq{d:Int × List Int}(h:q2 d): ∃(u:Nat) (acc:List Int),d=((u:Int),acc)∧u<18446744073709551616:=by
 obtain⟨u,_,aa,ae,_⟩:=h
 exact⟨u,d.2,by rw[←aa],ae⟩
theorem vZ{n:Int}(h:hH n):oz n:=by
 unfold oz
 rw[Pn h]
 refine⟨q2,fun d=>d.1.toNat,Po (q1 h),?_,fun d hd=>⟨fun hc=>?_,fun hc=>?_⟩⟩
 ·have:=q1 h
  show(((hb n:Nat):Int)).toNat<dV;unfold dV;omega
 ·obtain⟨u,acc,rfl,hu⟩:=Pq hd
  have aq:acc.length≤9:=BU hd
  have hc: ¬u<128:=by have:=of_decide_eq_true hc;simp only at this;omega
  have ad:=Pj Unit acc hc
  unfold ud at ad;rw[show decide ((u:Int)≥128)=true from decide_eq_true (by omega),cond_true]at ad
  have aB:=congrArg (fun s=>match s with|Step.br x=>x.1|_=>0) ad
  have bf:=congrArg (fun s=>match s with|Step.br x=>x.2|_=>[]) ad
  simp only at aB bf;refine⟨⟨?_,?_⟩,?_,?_⟩
  ·show acc.length+1≤maxLen
   unfold maxLen;omega
  ·show(acc.length+1)*1≤_
   omega
  ·show q2 (bA .shr .u64 (u:Int) 7,List.append acc [bA .or .u8 (IntKind.wrap .u8 (u:Int)) 128])
   rw[aB,bf];exact Pp hd hc
  ·show(bA .shr .u64 (u:Int) 7).toNat<(u:Int).toNat
   rw[aB];omega
 ·have aq:=BU hd
  refine⟨?_,?_⟩
  ·show d.2.length+1≤maxLen
   unfold maxLen;omega
  ·show(d.2.length+1)*1≤_
   omega
theorem oA{n:Int}(h:hH n):iG n:=by
 have key: ∀v:Int,v=((hb n:Nat):Int)→∃(bC:(Int × (List Int))→Prop) (hg:(Int × (List Int))→Nat),bC (v,[])∧hg (v,[])<dV∧∀(d0:Int × (List Int)),bC d0→(
  ((decide (d0.1≥128))=true→(
   let v11:List Int:=([(IntKind.wrap .u8 ((IntKind.wrap .u8 (bA .rem .u64 d0.1 (128:Int)))+(128:Int)))]:List Int)
   (List.length d0.2+List.length v11≤maxLen∧(List.length d0.2+List.length v11)*1≤140737488355328)∧
   bC ((bA .quo .u64 d0.1 (128:Int)),(List.append d0.2 v11))∧hg ((bA .quo .u64 d0.1 (128:Int)),(List.append d0.2 v11))<hg d0))∧((decide (d0.1≥128))=false→(
   List.length d0.2+List.length ([IntKind.wrap .u8 d0.1]:List Int)≤maxLen∧(List.length d0.2+List.length ([IntKind.wrap .u8 d0.1]:List Int))*1≤140737488355328))):=by
   rintro v rfl
   refine⟨q2,fun d=>d.1.toNat,Po (q1 h),?_,fun d hd=>⟨fun hc=>?_,fun hc=>?_⟩⟩
   ·have:=q1 h
    show(((hb n:Nat):Int)).toNat<dV;unfold dV;omega
   ·obtain⟨u,acc,rfl,hu⟩:=Pq hd
    have aq:acc.length≤9:=BU hd
    have hc: ¬u<128:=by have:=of_decide_eq_true hc;simp only at this;omega
    have ad:=Pk Unit acc hc hu
    unfold ue at ad;rw[show decide ((u:Int)≥128)=true from decide_eq_true (by omega),cond_true]at ad
    have aB:=congrArg (fun s=>match s with|Step.br x=>x.1|_=>0) ad
    have bf:=congrArg (fun s=>match s with|Step.br x=>x.2|_=>[]) ad
    simp only at aB bf;refine⟨⟨?_,?_⟩,?_,?_⟩
    ·show acc.length+1≤maxLen
     unfold maxLen;omega
    ·show(acc.length+1)*1≤_
     omega
    ·show q2 (bA .quo .u64 (u:Int) 128,List.append acc [IntKind.wrap .u8 (IntKind.wrap .u8 (bA .rem .u64 (u:Int) 128)+128)])
     rw[aB,bf];exact Pp hd hc
    ·show(bA .quo .u64 (u:Int) 128).toNat<(u:Int).toNat
     rw[aB];omega
   ·have aq:=BU hd
    refine⟨?_,?_⟩
    ·show d.2.length+1≤maxLen
     unfold maxLen;omega
    ·show(d.2.length+1)*1≤_
     omega
 have a1:=OZ h
 unfold iG
 refine⟨fun hd=>?_,fun hd=>?_⟩
 ·rw[hd,cond_true]at a1
  exact key _ a1
 ·rw[hd,cond_false]at a1
  exact key _ a1
def fg(s:ByteArray):Prop:=s.size≤140737488351232
theorem fg.i64{s:ByteArray}(h:fg s):hH (s.size:Int):=by unfold fg at h;exact⟨by omega,by omega⟩
theorem Gg{s:ByteArray}(h:fg s):h8 s=kt (hb s.size)++s:=by
 unfold h8
 rw[BT h.i64]
 rfl
theorem Ya{s:ByteArray}(h:fg s):iH s=kt (hb s.size)++s:=by
 unfold iH
 rw[Gf h.i64]
 rfl
theorem uf{s:ByteArray}(h:fg s):(h8 s).size≤140737488351242:=by
 rw[Gg h,ByteArray.size_append]
 have:=yL (u:=hb s.size)
 unfold fg at h
 omega
theorem yM{s:ByteArray}(h:fg s):sz s:=by
 refine⟨vZ h.i64,?_⟩
 have:=yL (u:=hb s.size)
 rw[BT h.i64]
 unfold fg at h
 omega
theorem v7{s:ByteArray}(h:fg s):pR s:=by
 refine⟨oA h.i64,?_⟩
 have:=yL (u:=hb s.size)
 rw[Gf h.i64]
 unfold fg at h
 omega
theorem oB{s:ByteArray}(h:fg s):iH s=h8 s:=by rw[Ya h,Gg h]
theorem l6{n:Int}(h:hH n):fB n=fW n:=by rw[Gf h,BT h]
theorem kU{n:Int}(h:hH n):(fW n).size≤10:=by rw[BT h];exact yL
end Go.aL
namespace Go.aL
open Go Go.eL
theorem Yb(r:Rd)(n:Int):0≤(ha r n).1:=by
 unfold ha
 cases dp:((kq ((dn r).2)) != 0)with
 |true=>exact Int.le_refl _
 |false=>
  simp only[cond_false]
  cases gS:decide ((dn r).1<0)with
  |true=>exact Int.le_refl _
  |false=>
   simp only[cond_false]
   have gS:=of_decide_eq_false gS
   cases q3:decide ((dn r).1>(if 0>n then 0 else n))with
   |true=>exact Int.le_refl _
   |false=>
    simp only[cond_false];omega
theorem BV(v:cf):kv v=nz v:=by
 unfold kv nz cN
 dsimp only
 have:sA v.n=yA v.n:=rfl
 rw[this]
 cases (v.kind==0)<;>cases (v.kind==4)<;>cases (v.kind==1)<;>cases (v.kind==2)<;>cases (v.kind==3)<;>rfl
theorem Pr(v:cf):pS v=ss v:=by
 unfold pS ss cN
 dsimp only
 cases (v.kind==0)<;>cases (v.kind==4)<;>cases (v.kind==1)<;>cases (v.kind==2)<;>cases (v.kind==3)<;>rfl
theorem Gh(v:cf):pS v=kv v:=by rw[Pr,BV,OW]
theorem q4(r:Rd):nB r=(r,kq r):=by
 unfold nB kq
 cases r.made<;>rfl
theorem q5(r:cp):mQ r=(r,gp r):=by
 unfold mQ gp
 cases r.made<;>rfl
def dx(s:ByteArray):Prop:=s.size≤4611686018427387904
theorem Gi{s:ByteArray}{k:Nat}(h:k<s.size):s.data.toList[k]? =some (s.data.toList.getD k 0)∧ej s (k:Int)=((s.data.toList.getD k 0).toNat:Int):=by
 have aq:k<s.data.toList.length:=h
 refine⟨by rw[List.getD_eq_getElem?_getD,List.getElem?_eq_getElem aq];rfl,?_⟩
 unfold ej
 rw[Int.toNat_natCast]
theorem Ps{s:ByteArray}(h:dx s):yN s=jW s:=by
 unfold dx at h
 unfold yN jW yz
 dsimp only
 rw[Int.toNat_natCast,yO (b:=qY s) (fun _ _=>True) s.size (fun i v hi _=>⟨?_,fun _ _=>trivial⟩) s.size 0 0 (Nat.zero_add _) trivial]
 ·cases bo (qY s) 0 s.size 0<;>rfl
 ·obtain⟨aB,bf⟩:=Gi hi
  unfold qY;dsimp only;rw[aB,bf];dsimp only
  have hw:IntKind.wrap .i64 ((i:Int)+1)=((i+1:Nat):Int):=by rw[gR _ (by omega) (by omega)];omega
  rw[hw];rfl
theorem nC{r:Rd}(h:dx r.rest):gr r=((dn r).2,(dn r).1):=by
 unfold gr dn
 rw[q4]
 dsimp only
 rw[Ps h]
 cases (kq r != 0)with
 |true=>rfl
 |false=>
  simp only[cond_false]
  cases ((jW r.rest).2.2 != 0)<;>rfl
theorem Pt{s:ByteArray}{a b:Nat}(h:dx s):dx (s.extract a b):=by
 unfold dx at h⊢
 rw[ByteArray.size_extract]
 omega
theorem pT{r:Rd}(h:dx r.rest):dx (dn r).2.rest:=by
 unfold dn
 simp only[cond_eq_ite]
 repeat' split
 all_goals first|exact h|exact Pt h
theorem Yc{r:Rd}{n:Int}(h:dx r.rest):dx (ha r n).2.rest:=by
 have:=pT h
 unfold ha
 simp only[cond_eq_ite]
 repeat' split
 all_goals exact this
theorem yP{r:Rd}{n:Int}(h:dx r.rest):dx (kr r n).2.rest:=by
 have:=Yc (n:=n) h
 unfold kr
 simp only[cond_eq_ite]
 repeat' split
 all_goals first|exact this|exact Pt this
theorem Pu{r:Rd}{n:Int}(h:dx r.rest):yQ r n=((ha r n).2,(ha r n).1):=by
 unfold yQ ha
 rw[nC h]
 dsimp only
 rw[q4]
 simp only[cond_eq_ite]
 repeat' split
 all_goals first|rfl|(simp_all[cD.den])
theorem q6{r:Rd}{n:Int}(h:dx r.rest):hI r n=((kr r n).2,(kr r n).1):=by
 unfold hI kr
 rw[Pu h]
 dsimp only
 rw[q4]
 simp only[cond_eq_ite]
 repeat' split
 all_goals rfl
theorem Yd(r:Rd)(e:Int):BW r e=sr r e:=by
 unfold BW sr
 rw[q4]
theorem Pv(r:Rd):(⟨r.rest,r.err,r.made⟩:Rd)=r:=rfl
theorem Pw{r:Rd}(h:dx r.rest):ug r=((sv r).2,(sv r).1):=by
 have aa:=pT h
 unfold ug sv su yB tX
 rw[nC h]
 dsimp only
 rw[nC aa,q6 aa]
 simp only[q4,Yd,BV,Pv]
 cases ((dn r).1==1)<;>cases ((dn r).1==2)<;>cases ((dn r).1==3)<;>cases ((dn r).1==4)<;>simp only[cond_true,cond_false,Bool.true_or,Bool.or_true,Bool.false_or,Bool.or_false,Pv]<;>(cases (nz _ != 0)<;>simp only[cond_true,cond_false]<;>(cases (kq _ != 0)<;>rfl))
theorem Ye(r:Rd):(v8 r).2=pO r:=by
 unfold v8 Gj pO F5
 rw[q4]
 dsimp only
 cases (kq r != 0)<;>simp only[cond_true,cond_false]<;>rw[q4]<;>simp only[cond_eq_ite]<;>split<;>rfl
theorem oC{q:cp}(an:jF q):iI q=((du q).2,(du q).1):=by
 have lC:=an
 obtain⟨aa,ae,au⟩:=an
 unfold iI du F6
 rw[q5]
 dsimp only
 cases (gp q != 0)with
 |true=>rfl
 |false=>
  simp only[cond_false]
  rw[show Int.toNat 10=10 from rfl,yO (b:=fun i v=>h9 (fun x:Int × dK=>(x.2,x.1)) (nA q i v)) (fun _ _=>True) 10 (fun i v hi _=>⟨?_,fun _ _=>trivial⟩) 10 0 0 (Nat.zero_add _) trivial,
   uh (fun x:Int × dK=>(x.2,x.1)) (b:=nA q) (fun _ _=>rfl)]
  ·cases bo (nA q) 0 10 0<;>rfl
  ·have cK:IntKind.wrap .i64 (q.at_+(i:Int))=q.at_+(i:Int):=gR _ (by omega) (by omega)
   unfold nA;dsimp only
   cases hd:decide (IntKind.wrap .i64 (q.at_+(i:Int))≥(q.s.size:Int))with
   |true=>rfl
   |false=>
    have hd:=of_decide_eq_false hd
    rw[cK]at hd;obtain⟨j,af⟩: ∃j:Nat,q.at_+(i:Int)=(j:Int):=⟨(q.at_+i).toNat,by omega⟩
    obtain⟨aB,bf⟩:=Gi (s:=q.s) (k:=j) (by omega)
    simp only[cond_false];rw[cK,af,Int.toNat_natCast,aB,bf];dsimp only;show(bif _ then _ else bif _ then(bif _ then _ else _)else _)=h9 _ (bif _ then _ else bif _ then _ else _)
    simp only[cond_eq_ite]
    split
    ·rfl
    ·split
     ·show(if _ then _ else _)=Step.ret (_,if _ then _ else _)
      have ad: ∀(c:Bool) (A:cp) (x y:Int),(if c=true then(Step.ret (A,x):Step (cp × Int) Int)else Step.ret (A,y))=Step.ret (A,if c=true then x else y):=fun c A x y=>by cases c<;>rfl
      exact ad _ _ _ _
     ·rfl
theorem Px{q:cp}{n:Int}(an:jF q):yR q n=((dw q n).2,(dw q n).1):=by
 unfold yR dw
 rw[oC an]
 dsimp only
 rw[q5]
 cases decide (n<0)<;>simp only[cond_true,cond_false]<;>simp only[cond_eq_ite]<;>(repeat' split)<;>rfl
theorem q7{q:cp}{n:Int}(an:jF q):iZ q n=((lB q n).2,(lB q n).1):=by
 obtain⟨aa,ae,au⟩:=Gc (n:=n) an
 have hn:=BR q n
 unfold iZ lB
 rw[Px an]
 dsimp only
 rw[q5]
 dsimp only
 have cK:IntKind.i64.wrap (((dw q n).2.s.size:Int)-(dw q n).2.at_)=((dw q n).2.s.size:Int)-(dw q n).2.at_:=gR _ (by omega) (by omega)
 rw[cK]
 cases (gp (dw q n).2 != 0)with
 |true=>rfl
 |false=>
  simp only[cond_false]
  cases hd:decide ((dw q n).1>((dw q n).2.s.size:Int)-(dw q n).2.at_)with
  |true=>rfl
  |false=>
   have hd:=of_decide_eq_false hd
   have dI:IntKind.i64.wrap ((dw q n).2.at_+(dw q n).1)=(dw q n).2.at_+(dw q n).1:=gR _ (by omega) (by omega)
   simp only[cond_false];rw[dI];rfl
theorem Yf(q:cp)(e:Int):BX q e=yC q e:=by
 unfold BX yC
 rw[q5]
theorem Py(r:cp):(⟨r.s,r.at_,r.bad,r.made⟩:cp)=r:=rfl
theorem Pz{q:cp}(an:jF q):ui q=((vU q).2,(vU q).1):=by
 have aa:=BQ an
 have ae:=Gd (n:=60) aa
 unfold ui vU ua pP tZ mO tY
 rw[oC an]
 dsimp only
 rw[q7 aa]
 simp only[Py]
 rw[oC aa,oC ae]
 simp only[q5,Yf,Pr,Py]
 cases ((du q).1==4)<;>simp only[cond_true,cond_false]<;>cases (decide ((du q).1≥1)&&decide ((du q).1≤3))<;>simp only[cond_true,cond_false]<;>(cases e3:(gp _==0)<;>simp only[cond_true,cond_false,Bool.true_and,Bool.false_and,bne_self_eq_false])<;>(repeat (cases (ss _ != 0)<;>simp only[cond_true,cond_false]))<;>(cases (gp _ != 0)<;>rfl)
theorem Yg(q:cp):(BY q).2=BO q:=by
 unfold BY BO
 rw[q5]
 dsimp only
 rw[q5]
 simp only[cond_eq_ite]
 repeat' split
 all_goals rfl
end Go.aL
namespace Go.aL
open Go Go.eL
theorem Yh{s:ByteArray}(h:dx s):Gk s:=by
 unfold dx at h
 refine⟨⟨by omega,by omega⟩,fun i _=>i≤9,Nat.zero_le _,fun i d _ hi=>?_⟩
 have hi:i≤9:=hi
 intro v5 hc
 refine⟨?_,fun oD=>?_⟩
 ·show 0≤IntKind.wrap .i64 (7*(i:Int))
  rw[gR _ (by omega) (by omega)]
  omega
 ·have oD:=of_decide_eq_false oD
  show i+1≤9
  rcases Nat.lt_or_ge i 9 with gF|gF
  ·exact gF
  ·have:i=9:=by omega
   subst this;simp only[Bool.or_eq_false_iff,Bool.and_eq_false_iff]at hc
   rcases hc.2 with h|h
   ·exact absurd h (by decide)
   ·have:=of_decide_eq_false h
    omega
theorem Yi{s:ByteArray}(h:(jW s).2.2=0):0≤(jW s).2.1∧(jW s).2.1≤(s.size:Int):=by
 obtain⟨u,t,aa,ae,au,aQ⟩:=Pc (s:=s) (U:=(jW s).1) (N:=(jW s).2.1) (by rw[←h])
 rw[au]
 have:=congrArg ByteArray.size ae
 rw[ByteArray.size_append]at this
 omega
theorem oE{r:Rd}(h:dx r.rest):nD r:=by
 unfold nD
 rw[q4]
 intro v1 _
 refine⟨Yh h,fun hc=>?_⟩
 have hc:=OU hc
 rw[Ps h]at hc⊢
 exact Yi hc
theorem Yj{r:Rd}{n:Int}(h:dx r.rest):Gl r n:=oE h
theorem sB{r:Rd}{n:Int}(h:dx r.rest):sC r n:=by
 refine⟨Yj h,?_⟩
 rw[Pu h]
 show(_ != 0)=false→_
 rw[q4]
 intro _ hd
 have hd:=of_decide_eq_false hd
 have hn:=Yb r n
 have hd: ¬(ha r n).1>((ha r n).2.rest.size:Int):=hd
 exact⟨⟨hn,by omega⟩,hn,by omega⟩
theorem Yk{r:Rd}(h:dx r.rest):BZ r:=by
 have aa:=pT h
 unfold BZ
 rw[nC h]
 dsimp only
 refine⟨oE h,⟨fun _=>⟨fun _=>oE aa,fun _ _=>sB aa⟩,fun _=>⟨fun _=>⟨fun _=>oE aa,fun _ _=>sB aa⟩,fun _=>⟨fun _=>oE aa,fun _ _=>sB aa⟩⟩⟩⟩
theorem Yl{r:Rd}{e:Int}(h:dx r.rest):dx (sr r e).rest:=by
 unfold sr
 cases (kq r==0)<;>exact h
theorem Ym{r:Rd}(h:dx r.rest):dx (sv r).2.rest:=by
 have aa:=pT h
 have ae:dx (tX r).rest:=by
  unfold tX;simp only[cond_eq_ite]
  repeat' split
  ·exact pT aa
  ·exact yP aa
  ·exact aa
 have au:dx (su r).rest:=by
  unfold su;simp only[cond_eq_ite]
  split
  ·exact Yl ae
  ·exact ae
 unfold sv
 simp only[cond_eq_ite]
 split<;>exact au
def kV(s:ByteArray):Int × Rd:=dn (OS s)
def kW(s:ByteArray):Int × Rd:=dn (kV s).2
def nE(s:ByteArray):Int × Rd:=dn (kW s).2
def nF(s:ByteArray):ByteArray × Rd:=kr (nE s).2 24
def nG(s:ByteArray):ByteArray × Rd:=kr (nF s).2 24
def nH(s:ByteArray):ByteArray × Rd:=kr (nG s).2 24
def pU(s:ByteArray):cf × Rd:=sv (nH s).2
def oF(s:ByteArray):ByteArray × Rd:=kr (pU s).2 20000
def fv(s:ByteArray):bu:=⟨(kV s).1,(kW s).1,⟨(nE s).1,(nF s).1,(nG s).1⟩,(nH s).1,(pU s).1,(oF s).1⟩
def Gm:bu:=⟨0,0,⟨0,⟨#[]⟩,⟨#[]⟩⟩,⟨#[]⟩,⟨0,0,⟨#[]⟩⟩,⟨#[]⟩⟩
def B0(s:ByteArray):bu × Int:=
 if pO (oF s).2≠0 then(Gm,pO (oF s).2)else if(fv s).kind<1∨(fv s).kind>7 then(Gm,7)else if(fv s).dz<0∨(fv s).dz>1099511627776 then(Gm,2)else(fv s,0)
theorem PA{s:ByteArray}(h:dx s):dx (kV s).2.rest∧dx (kW s).2.rest∧dx (nE s).2.rest∧dx (nF s).2.rest∧dx (nG s).2.rest∧dx (nH s).2.rest∧dx (pU s).2.rest:=by
 have aa:dx (kV s).2.rest:=pT h
 have ae:dx (kW s).2.rest:=pT aa
 have au:dx (nE s).2.rest:=pT ae
 have aQ:dx (nF s).2.rest:=yP au
 have bF:dx (nG s).2.rest:=yP aQ
 have cG:dx (nH s).2.rest:=yP bF
 exact⟨aa,ae,au,aQ,bF,cG,Ym cG⟩
theorem Xt{s:ByteArray}(h:dx s):uj s=B0 s:=by
 obtain⟨aa,ae,au,aQ,bF,cG,ea⟩:=PA h
 have aB:gr ⟨s,0,true⟩=((kV s).2,(kV s).1):=nC (r:=⟨s,0,true⟩) h
 have bf:gr (kV s).2=((kW s).2,(kW s).1):=nC aa
 have ck:gr (kW s).2=((nE s).2,(nE s).1):=nC ae
 have ep:hI (nE s).2 24=((nF s).2,(nF s).1):=q6 au
 have ku:hI (nF s).2 24=((nG s).2,(nG s).1):=q6 aQ
 have mR:hI (nG s).2 24=((nH s).2,(nH s).1):=q6 bF
 have pV:ug (nH s).2=((pU s).2,(pU s).1):=Pw cG
 have sw:hI (pU s).2 20000=((oF s).2,(oF s).1):=q6 ea
 unfold uj B0
 simp only[aB,bf,ck,ep,ku,mR,pV,sw,Ye]
 unfold wa wb
 by_cases e3:pO (oF s).2=0
 ·rw[e3,if_neg (fun h=>h rfl)]
  simp only[bne_self_eq_false,cond_false];show(bif(bif(decide ((fv s).kind<1)||decide ((fv s).kind>7))then(7:Int)else 0) != 0 then _ else _)=_
  by_cases hK:(fv s).kind<1∨(fv s).kind>7
  ·rw[if_pos hK,show(decide ((fv s).kind<1)||decide ((fv s).kind>7))=true by simpa using hK]
   have:(decide ((kV s).1<1)||decide ((kV s).1>7))=true:=by have hK:(kV s).1<1∨(kV s).1>7:=hK;simpa using hK
   rw[this];rfl
  ·rw[if_neg hK,show(decide ((fv s).kind<1)||decide ((fv s).kind>7))=false by simp only[not_or]at hK;simp only[Bool.or_eq_false_iff,decide_eq_false_iff_not];exact hK]
   show(bif(bif(decide ((fv s).dz<0)||decide ((fv s).dz>1099511627776))then(2:Int)else 0) != 0 then _ else _)=_
   by_cases gU:(fv s).dz<0∨(fv s).dz>1099511627776
   ·rw[if_pos gU,show(decide ((fv s).dz<0)||decide ((fv s).dz>1099511627776))=true by simpa using gU]
    have:(decide ((kW s).1<0)||decide ((kW s).1>1099511627776))=true:=by have gU:(kW s).1<0∨(kW s).1>1099511627776:=gU;simpa using gU
    rw[this];rfl
   ·rw[if_neg gU,show(decide ((fv s).dz<0)||decide ((fv s).dz>1099511627776))=false by simp only[not_or]at gU;simp only[Bool.or_eq_false_iff,decide_eq_false_iff_not];exact gU]
    rfl
 ·rw[if_pos e3,show(pO (oF s).2 != 0)=true by simpa using e3]
  simp only[cond_true];rfl
theorem OM{s:ByteArray}(h:dx s):yS s:=by
 obtain⟨aa,ae,au,aQ,bF,cG,ea⟩:=PA h
 have aB:gr ⟨s,0,true⟩=((kV s).2,(kV s).1):=nC (r:=⟨s,0,true⟩) h
 have bf:gr (kV s).2=((kW s).2,(kW s).1):=nC aa
 have ck:gr (kW s).2=((nE s).2,(nE s).1):=nC ae
 have ep:hI (nE s).2 24=((nF s).2,(nF s).1):=q6 au
 have ku:hI (nF s).2 24=((nG s).2,(nG s).1):=q6 aQ
 have mR:hI (nG s).2 24=((nH s).2,(nH s).1):=q6 bF
 have pV:ug (nH s).2=((pU s).2,(pU s).1):=Pw cG
 unfold yS
 simp only[aB,bf,ck,ep,ku,mR,pV]
 exact⟨oE (r:=⟨s,0,true⟩) h,oE aa,oE ae,sB au,sB aQ,sB bF,Yk cG,sB ea⟩
def oG(s:ByteArray):Int × cp:=du (OT s)
def oH(s:ByteArray):Int × cp:=du (oG s).2
def pW(s:ByteArray):Int × cp:=du (oH s).2
def pX(s:ByteArray):ByteArray × cp:=lB (pW s).2 24
def pY(s:ByteArray):ByteArray × cp:=lB (pX s).2 24
def pZ(s:ByteArray):ByteArray × cp:=lB (pY s).2 24
def oI(s:ByteArray):cf × cp:=vU (pZ s).2
def yT(s:ByteArray):ByteArray × cp:=lB (oI s).2 20000
theorem B1{s:ByteArray}(h:dx s):iF (OS s) (OT s):=by
 refine⟨⟨Int.le_refl _,by show(0:Int)≤s.size;omega,h⟩,?_⟩
 show(⟨s,0,true⟩:Rd)=⟨s.extract 0 s.size,0,true⟩
 rw[show s.extract 0 s.size=s from BP (by rw[vX];rfl)]
theorem PB{s:ByteArray}(h:dx s):((kV s).1=(oG s).1∧iF (kV s).2 (oG s).2)∧((kW s).1=(oH s).1∧iF (kW s).2 (oH s).2)∧((nE s).1=(pW s).1∧iF (nE s).2 (pW s).2)∧((nF s).1=(pX s).1∧iF (nF s).2 (pX s).2)∧
 ((nG s).1=(pY s).1∧iF (nG s).2 (pY s).2)∧((nH s).1=(pZ s).1∧iF (nH s).2 (pZ s).2)∧((pU s).1=(oI s).1∧iF (pU s).2 (oI s).2)∧((oF s).1=(yT s).1∧iF (oF s).2 (yT s).2):=by
 have aa:=vY _ _ (B1 h)
 have ae:=vY _ _ aa.2
 have au:=vY _ _ ae.2
 have aQ:=yJ 24 _ _ au.2
 have bF:=yJ 24 _ _ aQ.2
 have cG:=yJ 24 _ _ bF.2
 have ea:=X3 _ _ cG.2
 exact⟨aa,ae,au,aQ,bF,cG,ea,yJ 20000 _ _ ea.2⟩
theorem Xu{s:ByteArray}(h:dx s):yU s=B0 s:=by
 obtain⟨s1,s2,ky,kz,kA,kB,kX,Gn⟩:=PB h
 have aB:iI ⟨s,0,0,true⟩=((oG s).2,(oG s).1):=oC (q:=⟨s,0,0,true⟩) (B1 h).1
 have bf:iI (oG s).2=((oH s).2,(oH s).1):=oC s1.2.1
 have ck:iI (oH s).2=((pW s).2,(pW s).1):=oC s2.2.1
 have ep:iZ (pW s).2 24=((pX s).2,(pX s).1):=q7 ky.2.1
 have ku:iZ (pX s).2 24=((pY s).2,(pY s).1):=q7 kz.2.1
 have mR:iZ (pY s).2 24=((pZ s).2,(pZ s).1):=q7 kA.2.1
 have pV:ui (pZ s).2=((oI s).2,(oI s).1):=Pz kB.2.1
 have sw:iZ (oI s).2 20000=((yT s).2,(yT s).1):=q7 kX.2.1
 unfold yU B0
 simp only[aB,bf,ck,ep,ku,mR,pV,sw,Yg]
 rw[←X5 Gn.2]
 have aj:(oG s).1=(fv s).kind:=s1.1.symm
 have hn:(oH s).1=(fv s).dz:=s2.1.symm
 have hd:(⟨(oG s).1,(oH s).1,⟨(pW s).1,(pX s).1,(pY s).1⟩,(pZ s).1,⟨(oI s).1.kind,(oI s).1.n,(oI s).1.s⟩,(yT s).1⟩:bu)=fv s:=by
  unfold fv;rw[s1.1,s2.1,ky.1,kz.1,kA.1,kB.1,kX.1,Gn.1]
 rw[hd,aj,hn]
 by_cases e3:pO (oF s).2=0
 ·rw[e3,if_neg (fun h=>h rfl)]
  simp only[bne_self_eq_false,cond_false]
  by_cases hK:(fv s).kind<1∨(fv s).kind>7
  ·rw[if_pos hK,show(decide ((fv s).kind<1)||decide ((fv s).kind>7))=true by simpa using hK]
   rfl
  ·rw[if_neg hK,show(decide ((fv s).kind<1)||decide ((fv s).kind>7))=false by simp only[not_or]at hK;simp only[Bool.or_eq_false_iff,decide_eq_false_iff_not];exact hK]
   by_cases gU:(fv s).dz<0∨(fv s).dz>1099511627776
   ·rw[if_pos gU,show(decide ((fv s).dz<0)||decide ((fv s).dz>1099511627776))=true by simpa using gU]
    rfl
   ·rw[if_neg gU,show(decide ((fv s).dz<0)||decide ((fv s).dz>1099511627776))=false by simp only[not_or]at gU;simp only[Bool.or_eq_false_iff,decide_eq_false_iff_not];exact gU]
    rfl
 ·rw[if_pos e3,show(pO (oF s).2 != 0)=true by simpa using e3]
  rfl
theorem uk{q:cp}(an:jF q):q8 q:=by
 obtain⟨aa,ae,au⟩:=an
 unfold q8
 rw[q5]
 intro v1 _
 refine⟨fun _ _=>True,trivial,fun i d hi _=>?_⟩
 have hi:i<10:=hi
 have cK:IntKind.wrap .i64 (q.at_+(i:Int))=q.at_+(i:Int):=gR _ (by omega) (by omega)
 show decide (IntKind.wrap .i64 (q.at_+(i:Int))≥(q.s.size:Int))=false→(0≤IntKind.wrap .i64 (q.at_+(i:Int))∧IntKind.wrap .i64 (q.at_+(i:Int))<(q.s.size:Int))∧_
 rw[cK]
 intro hd
 have hd:=of_decide_eq_false hd
 refine⟨⟨by omega,by omega⟩,fun _=>⟨?_,fun _=>trivial⟩⟩
 show 0≤IntKind.wrap .i64 (7*(i:Int))
 rw[gR _ (by omega) (by omega)]
 omega
theorem Yn{q:cp}{n:Int}(an:jF q):Gp q n:=uk an
theorem yV{q:cp}{n:Int}(an:jF q):um q n:=by
 obtain⟨aa,ae,au⟩:=Gc (n:=n) an
 have hn:=BR q n
 refine⟨Yn an,?_⟩
 rw[Px an]
 show(_ != 0)=false→_
 rw[q5]
 intro _ hd
 have cK:IntKind.i64.wrap (((dw q n).2.s.size:Int)-(dw q n).2.at_)=((dw q n).2.s.size:Int)-(dw q n).2.at_:=gR _ (by omega) (by omega)
 have hd:decide ((dw q n).1>IntKind.i64.wrap (((dw q n).2.s.size:Int)-(dw q n).2.at_))=false:=hd
 rw[cK]at hd
 have hd:=of_decide_eq_false hd
 have dI:IntKind.i64.wrap ((dw q n).2.at_+(dw q n).1)=(dw q n).2.at_+(dw q n).1:=gR _ (by omega) (by omega)
 show 0≤(dw q n).2.at_∧(dw q n).2.at_≤IntKind.i64.wrap ((dw q n).2.at_+(dw q n).1)∧IntKind.i64.wrap ((dw q n).2.at_+(dw q n).1)≤((dw q n).2.s.size:Int)
 rw[dI]
 omega
theorem Yo{q:cp}(an:jF q):B2 q:=by
 have aa:=BQ an
 have ae:=Gd (n:=60) aa
 unfold B2
 rw[oC an]
 dsimp only
 refine⟨uk an,fun _=>⟨yV aa,?_⟩,fun _ _=>uk aa⟩
 rw[q7 aa]
 exact fun _=>uk ae
theorem Xq{s:ByteArray}(h:dx s):B3 s:=by
 obtain⟨s1,s2,ky,kz,kA,kB,kX,Gn⟩:=PB h
 have aB:iI ⟨s,0,0,true⟩=((oG s).2,(oG s).1):=oC (q:=⟨s,0,0,true⟩) (B1 h).1
 have bf:iI (oG s).2=((oH s).2,(oH s).1):=oC s1.2.1
 have ck:iI (oH s).2=((pW s).2,(pW s).1):=oC s2.2.1
 have ep:iZ (pW s).2 24=((pX s).2,(pX s).1):=q7 ky.2.1
 have ku:iZ (pX s).2 24=((pY s).2,(pY s).1):=q7 kz.2.1
 have mR:iZ (pY s).2 24=((pZ s).2,(pZ s).1):=q7 kA.2.1
 have pV:ui (pZ s).2=((oI s).2,(oI s).1):=Pz kB.2.1
 unfold B3
 simp only[aB,bf,ck,ep,ku,mR,pV]
 exact⟨uk (q:=⟨s,0,0,true⟩) (B1 h).1,uk s1.2.1,uk s2.2.1,yV ky.2.1,yV kz.2.1,yV kA.2.1,Yo kB.2.1,yV kX.2.1⟩
end Go.aL
namespace Go.aL
open Go Go.eL
def oJ(P:Int→Int→Bool)(x:ByteArray):Nat→Nat→Bool
 |_,0=>true
 |k,n+1=>!P (ej x (k:Int)) (k:Int)&&oJ P x (k+1) n
theorem PC{P:Int→Int→Bool}{x:ByteArray}{b:Nat→Unit→Step Bool Unit}(ad: ∀i v,b i v=bif P (ej x (i:Int)) (i:Int)then .ret false else .br ()):
 ∀(n k:Nat),bo b k n ()=bif oJ P x k n then .inr ()else .inl false
 |0,_=>rfl
 |n+1,k=>by
  unfold bo oJ;rw[ad]
  cases P (ej x (k:Int)) (k:Int)with
  |true=>rfl
  |false=>exact PC ad n (k+1)
theorem PD{x:ByteArray}{k:Nat}(aj:k<x.size):ej x (k:Int)=((x[k]'aj).toNat:Int):=by
 rw[(Gi aj).2,List.getD_eq_getElem?_getD,List.getElem?_eq_getElem (show k<x.data.toList.length from aj)]
 rfl
theorem PE{P:Int→Int→Bool}(q9: ∀c i,128≤c→P c i=true){x:ByteArray}{b:Int→Step Bool Int}
 (ad: ∀c,b c=bif cD.den .l7 x c then(bif P (cD.den .l8 x c) (cD.den .l9 x c)then .ret false else .br (cD.den .kY x c))else .cO c):
 ∀(n p F:Nat),x.size-p=n→n<F→∃v,c5 b F (p:Int)=bif oJ P x p n then .inr v else .inl false
 |n,p,0,_,h=>absurd h (Nat.not_lt_zero _)
 |0,p,F+1,hn,_=>by
  refine⟨(p:Int),?_⟩
  have:cD.den .l7 x (p:Int)=false:=decide_eq_false (by rw[Int.toNat_natCast];omega)
  rw[O0 (y:=(p:Int)) (by rw[ad,this,cond_false]),oJ,cond_true]
 |n+1,p,F+1,hn,hF=>by
  have ak:p<x.size:=by omega
  have aa:cD.den .l7 x (p:Int)=true:=decide_eq_true (by rw[Int.toNat_natCast];exact ak)
  have au:cD.den .l9 x (p:Int)=(p:Int):=by show((p:Int).toNat:Int)=p;rw[Int.toNat_natCast]
  have ae:cD.den .l8 x (p:Int)=((Utf8.decode x p).1:Int):=by show((Utf8.decode x (p:Int).toNat).1:Int)=_;rw[Int.toNat_natCast]
  have aQ:cD.den .kY x (p:Int)=((p+(Utf8.decode x p).2:Nat):Int):=by show(((p:Int).toNat+(Utf8.decode x (p:Int).toNat).2:Nat):Int)=_;rw[Int.toNat_natCast]
  rcases Nat.lt_or_ge (x[p]'ak).toNat 128 with a1|a1
  ·have hd:=decode_ascii x p ak a1
   have aw:((Utf8.decode x p).1:Int)=ej x (p:Int):=by rw[hd,PD ak]
   have Yp:p+(Utf8.decode x p).2=p+1:=by rw[hd]
   cases aI:P (ej x (p:Int)) (p:Int)with
   |true=>
    refine⟨0,?_⟩
    unfold c5 oJ;rw[ad,aa,cond_true,ae,au,aw,aI];rfl
   |false=>
    obtain⟨v,aY⟩:=PE q9 ad n (p+1) F (by omega) (by omega)
    refine⟨v,?_⟩
    rw[O1 (y:=((p+1:Nat):Int)) (by rw[ad,aa,cond_true,ae,au,aw,aI,cond_false,aQ,Yp]),aY]
    conv=>rhs;rw[oJ]
    rw[aI];rfl
  ·have hd:=(decode_high x p ak a1).1
   have aB:P ((Utf8.decode x p).1:Int) (p:Int)=true:=q9 _ _ (by omega)
   have bf:P (ej x (p:Int)) (p:Int)=true:=q9 _ _ (by rw[PD ak];omega)
   refine⟨0,?_⟩
   unfold c5 oJ;rw[ad,aa,cond_true,ae,au,aB,bf];rfl
theorem Yq{P:Int→Int→Bool}(q9: ∀c i,128≤c→P c i=true){x:ByteArray}(uc:x.size<18446744073709551616):
 ∃(bC:Int→Prop) (hg:Int→Nat),bC 0∧hg 0<dV∧∀(d0:Int),bC d0→(cD.den .l7 x d0=true→(P (cD.den .l8 x d0) (cD.den .l9 x d0)=false→bC (cD.den .kY x d0)∧hg (cD.den .kY x d0)<hg d0)):=by
 refine⟨fun d=>0≤d,fun d=>x.size-d.toNat,Int.le_refl _,by unfold dV;show x.size-(0:Int).toNat<_;omega,fun d hd aa ae=>?_⟩
 obtain⟨p,rfl⟩: ∃p:Nat,d=p:=⟨d.toNat,(Int.toNat_of_nonneg hd).symm⟩
 have ak:p<x.size:=by have:=of_decide_eq_true aa;rwa[Int.toNat_natCast]at this
 have au:cD.den .l9 x (p:Int)=(p:Int):=by show((p:Int).toNat:Int)=p;rw[Int.toNat_natCast]
 have wc:cD.den .l8 x (p:Int)=((Utf8.decode x p).1:Int):=by show((Utf8.decode x (p:Int).toNat).1:Int)=_;rw[Int.toNat_natCast]
 have aQ:cD.den .kY x (p:Int)=((p+(Utf8.decode x p).2:Nat):Int):=by show(((p:Int).toNat+(Utf8.decode x (p:Int).toNat).2:Nat):Int)=_;rw[Int.toNat_natCast]
 rcases Nat.lt_or_ge (x[p]'ak).toNat 128 with a1|a1
 ·have hd:=decode_ascii x p ak a1
  rw[aQ,hd];refine⟨by show(0:Int)≤_;omega,?_⟩
  show x.size-(((p+1:Nat):Int)).toNat<x.size-((p:Int)).toNat;omega
 ·have hd:=(decode_high x p ak a1).1
  rw[wc,au,q9 _ _ (by omega)]at ae
  cases ae
def p0(c i:Int):Bool:=(!(decide (c≥97)&&decide (c≤122)))&&((i==0)||(((c != 95)&&(c != 45))&&((decide (c<48))||(decide (c>57)))))
theorem PF(c i:Int)(h:128≤c):p0 c i=true:=by
 unfold p0
 have aa:decide (c≤122)=false:=decide_eq_false (by omega)
 have ae:(c != 95)=true:=by simp;omega
 have au:(c != 45)=true:=by simp;omega
 have aQ:decide (c>57)=true:=decide_eq_true (by omega)
 simp only[aa,ae,au,aQ,Bool.and_false,Bool.not_false,Bool.and_true,Bool.or_true,Bool.true_and]
def valid(x:ByteArray):Bool:=bif((decide ((ByteArray.size x:Int)<1))||(decide ((ByteArray.size x:Int)>24)))then false else oJ p0 x 0 x.size
theorem we(x:ByteArray):ir x=valid x:=by
 unfold ir valid
 cases h:((decide ((ByteArray.size x:Int)<1))||(decide ((ByteArray.size x:Int)>24)))with
 |true=>rfl
 |false=>
  simp only[Bool.or_eq_false_iff,decide_eq_false_iff_not]at h;simp only[cond_false];obtain⟨v,aw⟩:=PE PF (x:=x) (b:=fun(aW:Int)=>bif cD.den .l7 x aW then(bif p0 (cD.den .l8 x aW) (cD.den .l9 x aW)then Step.ret false else .br (cD.den .kY x aW))else .cO aW) (fun _=>rfl) x.size 0 dV (by omega) (by unfold dV;omega)
  have:(c5 (fun(aW:Int)=>bif cD.den .l7 x aW then(bif p0 (cD.den .l8 x aW) (cD.den .l9 x aW)then Step.ret false else .br (cD.den .kY x aW))else .cO aW) dV 0:Bool⊕Int)=_:=aw
  show Sum.elim _ _ (c5 (fun(aW:Int)=>bif cD.den .l7 x aW then(bif p0 (cD.den .l8 x aW) (cD.den .l9 x aW)then Step.ret false else .br (cD.den .kY x aW))else .cO aW) dV 0:Bool⊕Int)=_
  rw[this]
  cases oJ p0 x 0 x.size<;>rfl
theorem ra(x:ByteArray):nI x:=by
 intro h
 simp only[Bool.or_eq_false_iff,decide_eq_false_iff_not]at h
 exact Yq PF (x:=x) (by omega)
theorem wg(x:ByteArray):jX x=valid x:=by
 unfold jX valid
 dsimp only
 cases h:((decide ((ByteArray.size x:Int)<1))||(decide ((ByteArray.size x:Int)>24)))with
 |true=>rfl
 |false=>
  simp only[cond_false];rw[Int.toNat_natCast];show Sum.elim _ _ (bo (fun(i6:Nat) (_:Unit)=>bif p0 (ej x (i6:Int)) (i6:Int)then(Step.ret false:Step Bool Unit)else .br ()) 0 x.size ())=_
  rw[PC (P:=p0) (x:=x) (fun _ _=>rfl)]
  cases oJ p0 x 0 x.size<;>rfl
theorem sD(x:ByteArray):p1 x:=by
 intro h
 simp only[Bool.or_eq_false_iff,decide_eq_false_iff_not]at h
 omega
end Go.aL
namespace Go.aL
open Go Go.eL
theorem uo(a b:ByteArray):ByteArray.size (ByteArray.append a b)=a.size+b.size:=ByteArray.size_append
theorem rb{n:Int}(aa: -1099511627776≤n)(ae:n≤1099511627776):hH n:=⟨by omega,by omega⟩
structure Gq (v:cf):Prop where
 k:hH v.kind
 n:hH v.n
 s:fg v.s
theorem PG{v:cf}(h:kv v≠0):mS v=fW 0:=by
 unfold mS
 rw[show(kv v != 0)=true by simpa using h]
 rfl
theorem Yr{v:cf}(h:kv v≠0):uq v=fB 0:=by
 unfold uq
 rw[Gh,show(kv v != 0)=true by simpa using h]
 rfl
theorem PH{s:ByteArray}(h:s.size≤60):fg s:=by unfold fg;omega
theorem PI(v:cf):uq v=mS v:=by
 by_cases h:kv v=0
 ·have hc:nz v=0:=by rw[←BV];exact h
  unfold uq mS;rw[Gh,show(kv v != 0)=false by simpa using h]
  rcases Pd hc with⟨aa,ae,au⟩|⟨aa,ae,au,aQ⟩|⟨aa,ae,au⟩
  ·rw[aa]
   exact l6 (n:=0) (rb (by decide) (by decide))
  ·have hn:fB v.n=fW v.n:=l6 (rb au aQ)
   rcases aa with aa|aa|aa<;>rw[aa]<;>simp only[cond_false]<;>rw[hn]<;>rfl
  ·have ai:iH v.s=h8 v.s:=oB (PH au)
   rw[aa];simp only[cond_false];rw[ai];rfl
 ·rw[PG h,Yr h]
  exact l6 (n:=0) (rb (by decide) (by decide))
theorem Ys{s:ByteArray}(h:s.size≤60):(h8 s).size≤70:=by
 rw[Gg (PH h),ByteArray.size_append]
 have:=yL (u:=hb s.size)
 omega
theorem wh:hH 0:=rb (by decide) (by decide)
theorem Yt(v:cf):(mS v).size≤80:=by
 have aM:=kU wh
 by_cases h:kv v=0
 ·have hc:nz v=0:=by rw[←BV];exact h
  unfold mS;rw[show(kv v != 0)=false by simpa using h]
  rcases Pd hc with⟨aa,ae,au⟩|⟨aa,ae,au,aQ⟩|⟨aa,ae,au⟩
  ·rw[aa]
   show(fW 0).size≤80;omega
  ·have hn:=kU (rb au aQ)
   rcases aa with aa|aa|aa
   ·rw[aa]
    show(ByteArray.append (fW 1) (fW v.n)).size≤80;rw[uo]
    have:=kU (n:=1) (rb (by decide) (by decide))
    omega
   ·rw[aa]
    show(ByteArray.append (fW 2) (fW v.n)).size≤80;rw[uo]
    have:=kU (n:=2) (rb (by decide) (by decide))
    omega
   ·rw[aa]
    show(ByteArray.append (fW 3) (fW v.n)).size≤80;rw[uo]
    have:=kU (n:=3) (rb (by decide) (by decide))
    omega
  ·have ai:=Ys au
   rw[aa];show(ByteArray.append (fW 4) (h8 v.s)).size≤80;rw[uo]
   have:=kU (n:=4) (rb (by decide) (by decide))
   omega
 ·rw[PG h]
  omega
def B4(k n:Int)(s:ByteArray)(b:Bool):Prop:=(b=true→(oz n∧(fW k).size+(fW n).size≤9223372036854775807))∧(b=false→((k==4)=true→(sz s∧(fW k).size+(h8 s).size≤9223372036854775807)))
theorem Yu{v:cf}(aw:Gq v):Gr v:=by
 have key: ∀(k n:Int) (s:ByteArray),hH k→hH n→fg s→(oz k)∧((k==1)=true→B4 k n s (k==1))∧((k==1)=false→((k==2)=true→B4 k n s (k==2))∧((k==2)=false→B4 k n s (k==3))):=by
  intro k n s aj hn ai
  have b6:=kU aj
  have a2:=kU hn
  have a3:=uf ai
  have af: ∀b,B4 k n s b:=fun b=>⟨fun _=>⟨vZ hn,by omega⟩,fun _ _=>⟨yM ai,by omega⟩⟩
  exact⟨vZ aj,fun _=>af _,fun _=>⟨fun _=>af _,fun _=>af _⟩⟩
 exact⟨fun _=>key 0 0 ⟨#[]⟩ wh wh (by unfold fg;exact Nat.zero_le _),fun _=>key v.kind v.n v.s aw.k aw.n aw.s⟩
theorem Yv{v:cf}(aw:Gq v):Gs v:=by
 have key: ∀(k n:Int) (s:ByteArray),hH k→hH n→fg s→((k==0)=true→iG 0)∧((k==0)=false→(((k==4)=true→(iG k∧pR s∧(fB k).size+(iH s).size≤9223372036854775807))∧((k==4)=false→(iG k∧iG n∧(fB k).size+(fB n).size≤9223372036854775807)))):=by
  intro k n s aj hn ai
  have b6:=kU aj
  have a2:=kU hn
  have a3:=uf ai
  rw[←l6 aj]at b6;rw[←l6 hn]at a2;rw[←oB ai]at a3;exact⟨fun _=>oA wh,fun _=>⟨fun _=>⟨oA aj,v7 ai,by omega⟩,fun _=>⟨oA aj,oA hn,by omega⟩⟩⟩
 exact⟨fun _=>key 0 0 ⟨#[]⟩ wh wh (by unfold fg;exact Nat.zero_le _),fun _=>key v.kind v.n v.s aw.k aw.n aw.s⟩
structure pK (q:bu):Prop where
 k:hH q.kind
 n:hH q.dz
 d:hH q.key.dev
 c:fg q.key.dm
 a:fg q.key.attr
 m:fg q.name
 v:Gq q.value
 t:fg q.text
theorem Xv{q:bu}(h:pK q):yW q=oy q:=by
 unfold yW oy
 rw[l6 h.k,l6 h.n,l6 h.d,oB h.c,oB h.a,oB h.m,PI,oB h.t]
theorem Gt{q:bu}(h:pK q):(fW q.kind).size≤10∧(fW q.dz).size≤10∧(fW q.key.dev).size≤10∧(h8 q.key.dm).size≤140737488351242∧(h8 q.key.attr).size≤140737488351242∧(h8 q.name).size≤140737488351242∧(mS q.value).size≤80∧(h8 q.text).size≤140737488351242:=
 ⟨kU h.k,kU h.n,kU h.d,uf h.c,uf h.a,uf h.m,Yt _,uf h.t⟩
theorem Yw{q:bu}(h:pK q):dx (oy q):=by
 obtain⟨aa,ae,au,aQ,bF,cG,ea,oD⟩:=Gt h
 have PJ:(mS ⟨q.value.kind,q.value.n,q.value.s⟩).size≤80:=ea
 unfold dx oy
 simp only[uo]
 omega
theorem ON{q:bu}(h:pK q):B5 q:=by
 obtain⟨aa,ae,au,aQ,bF,cG,ea,oD⟩:=Gt h
 have PJ:(mS ⟨q.value.kind,q.value.n,q.value.s⟩).size≤80:=ea
 refine⟨vZ h.k,vZ h.n,?_,vZ h.d,?_,yM h.c,?_,yM h.a,?_,yM h.m,?_,Yu h.v,?_,yM h.t,?_⟩<;>(try simp only[uo])<;>omega
theorem Xr{q:bu}(h:pK q):Gu q:=by
 obtain⟨aa,ae,au,aQ,bF,cG,ea,oD⟩:=Gt h
 have PJ:(mS ⟨q.value.kind,q.value.n,q.value.s⟩).size≤80:=ea
 refine⟨oA h.k,oA h.n,?_,oA h.d,?_,v7 h.c,?_,v7 h.a,?_,v7 h.m,?_,Yv h.v,?_,v7 h.t,?_⟩<;>(try simp only[uo,l6 h.k,l6 h.n,l6 h.d,oB h.c,oB h.a,oB h.m,PI,oB h.t])<;>omega
end Go.aL
namespace Go.aL
open Go Go.eL
theorem Gv{l:List ByteArray}(h:l.length≤1000000):wi l:=by
 unfold wi maxLen
 omega
theorem Yx{l:List cP}(h:l.length≤1000000):B6 l:=by
 unfold B6 maxLen
 omega
theorem Yy(l:List ByteArray):B7 l:=by
 unfold B7
 repeat' (first|exact trivial|exact ra _|intro _|refine And.intro ?_ ?_|refine Exists.intro (fun _ _=>True) (And.intro trivial ?_))
theorem Gw(a:Attr):wj a:=by
 unfold wj
 repeat' (first|exact trivial|exact ra _|exact Yy _|intro _|refine And.intro ?_ ?_|refine Exists.intro (fun _ _=>True) (And.intro trivial ?_))
theorem Gx(a:Attr)(v:cf):yX a v:=Gw a
theorem B8{α:Type}{l:List α}{i:Nat}{d:α}(h:i<l.length):List.getD l i d∈l:=by
 rw[List.getD_eq_getElem?_getD,List.getElem?_eq_getElem h]
 exact List.getElem_mem h
theorem toNat_cast(n:Nat):Int.toNat (n:Int)=n:=Int.toNat_natCast n
theorem PK{c:aK}{x:ByteArray}(h: ∀a∈c.attrs,a.enum.length≤64):yY c x:=by
 refine⟨fun _ _=>True,trivial,fun i _ hi _=>⟨fun _=>Gv ?_,fun _=>trivial⟩⟩
 rw[toNat_cast]at hi⊢
 have:=h _ (B8 (d:=aA .Attr) hi)
 omega
theorem PL(x y:List ByteArray):Gy x y:=by
 intro h
 have h:((x.length:Int) != (y.length:Int))=false:=h
 have h:(x.length:Int)=(y.length:Int):=by simpa using h
 refine⟨fun _ _=>True,trivial,fun i _ hi _=>⟨?_,fun _=>trivial⟩⟩
 rw[toNat_cast]at hi
 omega
theorem Yz(a b:Attr):Gz a b:=fun _=>PL _ _
theorem YA(x:cP)(a b:Attr):B9 x a b:=by
 unfold B9
 repeat' (first|exact trivial|exact Gx _ _|exact Yz _ _|intro _|refine And.intro ?_ ?_)
theorem YB{c:aK}(a:Attr)(x:cP)(h: ∀a∈c.attrs,a.enum.length≤64):Ca c a x:=by
 unfold Ca
 repeat' (first|exact trivial|exact PK h|exact YA _ _ _|intro _|refine And.intro ?_ ?_)
theorem ur{α:Type}{l:List α}{i:Int}(aM:0≤i)(h:i≤l.length):ja l.length none (some i):=by
 simp only[ja]
 omega
theorem YC{c:aK}{i:Int}(h: ∀a∈c.attrs,a.enum.length≤64)(aM:0≤i)(aa:i<c.commands.length):Cb c i:=by
 unfold Cb
 repeat' (first|exact trivial|exact aM|exact aa|exact ra _|exact Gw _|exact YB _ _ h|exact ur aM (by omega)|intro _|refine And.intro ?_ ?_|refine Exists.intro (fun _ _=>True) (And.intro trivial ?_))
theorem nJ{a:Int}(h:(a != 0)=false):a=0:=by simpa using h
theorem YD{l:List ByteArray}(h:wk l=0):l.length≤64:=by
 unfold wk at h
 dsimp only at h
 simp only[cond_eq_ite]at h
 split at h
 ·cases h
 ·rename_i ai
  simp only[Bool.or_eq_true,decide_eq_true_eq,not_or]at ai;omega
theorem GA{a:Attr}(h:kZ a=0):a.enum.length≤64:=by
 unfold kZ at h
 dsimp only at h
 simp only[cond_eq_ite]at h
 repeat' split at h
 all_goals first|(cases h;done)|exact YD h|(rename_i ai;simp only[decide_eq_true_eq]at ai;omega)
theorem YE(c:aK):GB c:=by
 refine⟨ra _,fun _ _=>⟨fun k _=>∀j,j<k→∀a,c.attrs[j]? =some a→a.enum.length≤64,fun j af=>absurd af (by omega),fun i _ hi bW=>⟨Gw _,fun oD=>⟨?_,⟨fun _ _=>True,trivial,fun _ _ _ _ _=>trivial,fun _ _=>?_⟩⟩⟩,fun _ bW=>?_⟩⟩
 ·rw[toNat_cast]at hi
  exact ur (by omega) (by omega)
 ·have oD:=GA (nJ oD)
  rw[toNat_cast]at hi oD;show ∀j,j<i+1→∀a,c.attrs[j]? =some a→a.enum.length≤64;intro j af a a1
  by_cases gu:j=i
  ·subst gu
   rw[List.getD_eq_getElem?_getD,a1]at oD
   exact oD
  ·exact bW j (by omega) a a1
 ·rw[toNat_cast]at bW
  have dp: ∀a∈c.attrs,a.enum.length≤64:=fun a a1=>by
   obtain⟨j,af,rfl⟩:=List.mem_iff_getElem.1 a1;exact bW j af _ (List.getElem?_eq_getElem af)
  refine⟨fun _ _=>True,trivial,fun i _ hi _=>⟨YC dp (by omega) (by rw[toNat_cast]at hi;omega),fun _=>trivial⟩,fun _ _=>⟨fun _ _=>True,trivial,fun i _ hi _=>⟨ra _,fun _=>⟨ur (by omega) (by rw[toNat_cast]at hi;omega),fun _=>trivial⟩⟩⟩⟩
theorem YF(l:List aK):GC l:=by
 refine fun _=>⟨fun _ _=>True,trivial,fun i _ hi _=>⟨YE _,fun _=>⟨ur (by omega) (by rw[toNat_cast]at hi;omega),⟨fun _ _=>True,trivial,fun _ _ _ _ _=>trivial,fun _ _=>trivial⟩⟩⟩⟩
theorem sE{n:Int}(aa: -9223372036854775808≤n)(ae:n≤9223372036854775807):IntKind.wrap .i64 n=n:=by
 rw[IntKind.wrap_i64]
 omega
theorem GD(h:Home):yZ h:=by
 refine⟨YF _,fun _ au=>⟨fun _ _=>True,trivial,fun i _ hi _ _=>⟨fun aw=>?_,fun _ _=>⟨ra _,fun _ _=>trivial⟩⟩⟩⟩
 have aw:=of_decide_eq_true aw
 have au:=of_decide_eq_false au
 rw[toNat_cast]at hi
 show 0≤IntKind.wrap .i64 ((i:Int)-1)∧IntKind.wrap .i64 ((i:Int)-1)<(h.bm.length:Int)
 rw[sE (by omega) (by omega)]
 omega
theorem GF(h:Home)(x:Int):y0 h x:=GD h
end Go.aL
