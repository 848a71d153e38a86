/- Numbers, texts, values, readers: the spec functions. Conditions: none. -/
import Derived.Test.YtmkpmgfieagphaaGreatDoorHTEk
import Derived.Laws.RangeString
import Derived.Laws.RangeAny
import Derived.Laws.BitsAllLaws
import Derived.Laws.DeepNot64
import Derived.Test.YtmkpmgfieagphaaGreatDoorHPm
namespace Go.aN
open Go Go.aN Go.eg
abbrev fk:=dA
def qV(s:ByteArray)(kT:Nat)(qW:Int):Step (Int × Int × Int) (Int):=
 match qW with
 |(qX)=>(match(s.data.toList)[kT]? with|some mT=>(bif((decide ((kT:Int)>0)&&((mT.toNat:Int)==0))||(((kT:Int)==9)&&decide ((mT.toNat:Int)>1)))then .ret (0,0,4)else(bif decide ((mT.toNat:Int)<128)then .ret (kU .u64 qX (IntKind.u64.wrap ((IntKind.u64.wrap (lD .u8 (mT.toNat:Int) 127))*2^(min (IntKind.i64.wrap (7*(kT:Int))).toNat 64))),((kT+1:Nat):Int),0)else .bh (kU .u64 qX (IntKind.u64.wrap ((IntKind.u64.wrap (lD .u8 (mT.toNat:Int) 127))*2^(min (IntKind.i64.wrap (7*(kT:Int))).toNat 64))))))|none=>.bh qW)
def y0(s:ByteArray)(qW:Int):(Int × Int × Int)⊕(Int):=bm (qV s) 0 s.size qW
def j1(s:ByteArray):Int × Int × Int:=
 (match(y0 s (0))with| .inl GX=>GX| .inr (qX)=>(0,0,5))
def kA(r:Rd):(Int):=
 (bif !r.made then 15 else r.err)
def ek(r:Rd):(Int × Rd):=
 (bif((kA r) != 0)then(0,r)else(bif((((j1 r.rest).2).2) != 0)then(0,(⟨r.rest,(((j1 r.rest).2).2),r.made⟩:Rd))else(jH .i64 (IntKind.i64.wrap (((j1 r.rest).1).fdiv 2)) (IntKind.i64.wrap (0-IntKind.i64.wrap (lD .u64 ((j1 r.rest).1) 1))),(⟨r.rest.extract ((((j1 r.rest).2).1).toNat) r.rest.size,r.err,r.made⟩:Rd))))
def hg(r:Rd)(n:Int):(Int × Rd):=
 (bif((kA ((ek r).2)) != 0)then(0,((ek r).2))else(bif decide ((ek r).1<0)then(0,(⟨((ek r).2).rest,4,((ek r).2).made⟩:Rd))else(bif decide ((ek r).1>(if 0>n then 0 else n))then(0,(⟨((ek r).2).rest,3,((ek r).2).made⟩:Rd))else((ek r).1,((ek r).2)))))
def kB(r:Rd)(n:Int):(ByteArray × Rd):=
 (bif((kA ((hg r n).2)) != 0)then(⟨#[]⟩,((hg r n).2))else(bif decide ((hg r n).1>(((((hg r n).2).rest).size:Nat):Int))then(⟨#[]⟩,(⟨((hg r n).2).rest,5,((hg r n).2).made⟩:Rd))else((((hg r n).2).rest).extract 0 (((hg r n).1).toNat),(⟨(((hg r n).2).rest).extract (((hg r n).1).toNat) (((hg r n).2).rest).size,((hg r n).2).err,((hg r n).2).made⟩:Rd))))
def y2(r:Rd)(e:Int):(Rd):=
 (bif((kA r)==0)then(⟨r.rest,e,r.made⟩:Rd)else r)
def GY(r:Rd):(Int):=
 (bif((kA r) != 0)then 0 else(r.rest.size:Int))
def Cy(r:Rd):(Int):=
 (bif decide ((GY r)>0)then 23 else(kA r))
def y3(n:Int):Bool:=
 (decide (n≥ -1099511627776)&&decide (n≤1099511627776))
def oG(v:c6):Int:=
 (bif(((v.kind==0)||(v.kind==4))||((v.kind==1)||((v.kind==2)||(v.kind==3))))then(bif !(bif((v.kind==0)||(v.kind==4))then(v.n==0)else(bif(v.kind==1)then((v.n==0)||(v.n==1))else(bif(v.kind==2)then y3 v.n else(decide (v.n≥0)&&decide (v.n≤63)))))then 2 else(bif decide ((v.s.size:Int)>60)then 3 else(bif(!et v.s (⟨#[]⟩)&&(v.kind != 4))then 4 else 0)))else 7)
def Cz(v:c6):Int:=
 (bif(((v.kind==0)||(v.kind==4))||((v.kind==1)||((v.kind==2)||(v.kind==3))))then(bif(decide (v.n<(bif(((v.kind==0)||(v.kind==4))||((v.kind==1)|| !(v.kind==2)))then 0 else -1099511627776))||decide (v.n>(bif((v.kind==0)||(v.kind==4))then 0 else(bif(v.kind==1)then 1 else(bif(v.kind==2)then 1099511627776 else 63)))))then 2 else(bif decide ((v.s.size:Int)>60)then 3 else(bif(!et v.s (⟨#[]⟩)&&(v.kind != 4))then 4 else 0)))else 7)
def GZ(r:Rd):c6:=(bif(((ek r).1==1)||(((ek r).1==2)||((ek r).1==3)))then(⟨(ek r).1,(ek ((ek r).2)).1,⟨#[]⟩⟩:c6)else(bif((ek r).1==4)then(⟨(ek r).1,0,(kB ((ek r).2) 60).1⟩:c6)else(⟨(ek r).1,0,⟨#[]⟩⟩:c6)))
def y4(r:Rd):Rd:=(bif(((ek r).1==1)||(((ek r).1==2)||((ek r).1==3)))then((ek ((ek r).2)).2)else(bif((ek r).1==4)then((kB ((ek r).2) 60).2)else((ek r).2)))
def wb(r:Rd):Rd:=(bif(oG (GZ r) != 0)then(y2 (y4 r) 4)else(y4 r))
def wc(r:Rd):(c6 × Rd):=
 (bif((kA (wb r)) != 0)then((⟨0,0,⟨#[]⟩⟩:c6),(wb r))else((GZ r),(wb r)))
def jI(r:fk):(Int):=
 (bif !r.made then 15 else r.bad)
def nI(r:fk)(kT:Nat)(qW:Int):Step (Int × fk) (Int):=
 match qW with
 |(qX)=>(bif decide (IntKind.i64.wrap (r.at_+(kT:Int))≥(r.s.size:Int))then .ret (0,(⟨r.s,r.at_,5,r.made⟩:fk))else(match(r.s.data.toList)[(IntKind.i64.wrap (r.at_+(kT:Int))).toNat]? with|some mT=>(bif((decide ((kT:Int)>0)&&((mT.toNat:Int)==0))||(((kT:Int)==9)&&decide ((mT.toNat:Int)>1)))then .ret (0,(⟨r.s,r.at_,4,r.made⟩:fk))else(bif decide ((mT.toNat:Int)<128)then .ret ((bif((kU .u64 qX (IntKind.u64.wrap ((IntKind.u64.wrap ((mT.toNat:Int).tmod 128))*2^(min (IntKind.i64.wrap (7*(kT:Int))).toNat 64)))).tmod 2==1)then IntKind.i64.wrap (-1-IntKind.i64.wrap ((kU .u64 qX (IntKind.u64.wrap ((IntKind.u64.wrap ((mT.toNat:Int).tmod 128))*2^(min (IntKind.i64.wrap (7*(kT:Int))).toNat 64)))).fdiv 2))else IntKind.i64.wrap ((kU .u64 qX (IntKind.u64.wrap ((IntKind.u64.wrap ((mT.toNat:Int).tmod 128))*2^(min (IntKind.i64.wrap (7*(kT:Int))).toNat 64)))).fdiv 2)),(⟨r.s,IntKind.i64.wrap (IntKind.i64.wrap (r.at_+(kT:Int))+1),r.bad,r.made⟩:fk))else .bh (kU .u64 qX (IntKind.u64.wrap ((IntKind.u64.wrap ((mT.toNat:Int).tmod 128))*2^(min (IntKind.i64.wrap (7*(kT:Int))).toNat 64))))))|none=>.bh qW))
def G0(r:fk)(qW:Int):(Int × fk)⊕(Int):=bm (nI r) 0 10 qW
def gJ(r:fk):(Int × fk):=
 (bif((jI r) != 0)then(0,r)else(match(G0 r (0))with| .inl GX=>GX| .inr (qX)=>(0,r)))
def dB(r:fk)(n:Int):(Int × fk):=
 (bif((jI ((gJ r).2)) != 0)then(0,((gJ r).2))else(bif decide ((gJ r).1<0)then(0,(⟨((gJ r).2).s,((gJ r).2).at_,4,((gJ r).2).made⟩:fk))else(bif decide ((gJ r).1>(bif decide (n<0)then 0 else n))then(0,(⟨((gJ r).2).s,((gJ r).2).at_,3,((gJ r).2).made⟩:fk))else((gJ r).1,((gJ r).2)))))
def mU(r:fk)(n:Int):(ByteArray × fk):=
 (bif((jI ((dB r n).2)) != 0)then(⟨#[]⟩,((dB r n).2))else(bif decide ((dB r n).1>IntKind.i64.wrap ((((((dB r n).2).s).size:Nat):Int)-((dB r n).2).at_))then(⟨#[]⟩,(⟨((dB r n).2).s,((dB r n).2).at_,5,((dB r n).2).made⟩:fk))else((((dB r n).2).s).extract ((((dB r n).2).at_).toNat) ((((dB r n).2).at_+(dB r n).1).toNat),(⟨((dB r n).2).s,IntKind.i64.wrap (((dB r n).2).at_+(dB r n).1),((dB r n).2).bad,((dB r n).2).made⟩:fk))))
def CA(r:fk):(Int):=
 (bif((jI r) != 0)then(jI r)else(bif decide (r.at_<(r.s.size:Int))then 23 else 0))
def we(s:ByteArray):Rd:=(⟨s,0,true⟩:Rd)
def y5(s:ByteArray):fk:=(⟨s,0,0,true⟩:fk)
def kC(r:fk):Prop:=0≤r.at_∧r.at_≤(r.s.size:Int)∧r.s.size≤4611686018427387904
open Classical in
theorem Qh{a:Int}(h:(a != 0)=false):a=0:=by simpa using h
theorem Yv{α:Type}{l:List α}{k:Nat}{x:α}:x∈l.take k↔∃i,i<k∧l[i]? =some x:=by
 rw[List.mem_iff_getElem?]
 constructor
 ·rintro⟨i,hi⟩
  rw[List.getElem?_take]at hi
  split at hi
  ·rename_i h;exact⟨i,h,hi⟩
  ·cases hi
 ·rintro⟨i,h,hi⟩
  exact⟨i,by rw[List.getElem?_take,if_pos h];exact hi⟩
theorem Yw{α:Type}{p q:Prop}[Decidable p][Decidable q]{a b:α}(h:p↔q):(if p then a else b)=if q then a else b:=by
 by_cases ak:p
 ·rw[if_pos ak,if_pos (h.1 ak)]
 ·rw[if_neg ak,if_neg fun aK=>ak (h.2 aK)]
theorem Qi{α:Type}{p q:Prop}[Decidable p][Decidable q]{a b:α}(h:p↔¬q):(if p then a else b)=if q then b else a:=by
 by_cases aK:q
 ·rw[if_pos aK,if_neg fun ak=>h.1 ak aK]
 ·rw[if_neg aK,if_pos (h.2 aK)]
theorem Yx(v:c6):oG v=Cz v:=by
 unfold oG Cz y3
 simp only[cond_eq_ite]
 by_cases aJ:v.kind=0
 ·simp[aJ]
  apply Qi;omega
 by_cases aR:v.kind=4
 ·simp[aR]
  apply Qi;omega
 by_cases aa:v.kind=1
 ·simp[aa]
  apply Yw;omega
 by_cases ae:v.kind=2
 ·simp[ae]
 by_cases au:v.kind=3
 ·simp[au]
 ·simp[aJ,aa,ae,au,aR]
end Go.aN
namespace Go.aN
open Go Go.aN Go.eg
def kV:Nat→Nat→List Nat
 |0,u=>[u]
 |f+1,u=>if u<128 then[u]else(u%128+128)::kV f (u/ 128)
def hh(n:Int):Nat:=if 0≤n then(2*n).toNat else(-2*n-1).toNat
def y6(u:Nat):Int:=if u%2=0 then((u/ 2:Nat):Int)else -1-((u/ 2:Nat):Int)
def ix(n:Int):Prop:= -9223372036854775808≤n∧n<9223372036854775808
theorem qY{n:Int}(h:ix n):hh n<18446744073709551616:=by
 unfold ix at h
 unfold hh
 split<;>omega
theorem oH(n:Int):IntKind.u64.wrap n=n%18446744073709551616:=by simp[IntKind.wrap,IntKind.bits,IntKind.signed]
theorem G1(a b:Nat)(aY:a<18446744073709551616)(ad:b<18446744073709551616):jH .u64 (a:Int) (b:Int)=((a ^^^ b:Nat):Int):=u64_xor_nat a b aY ad
theorem Yy(a b:Nat)(aY:a<18446744073709551616)(ad:b<18446744073709551616):kU .u64 (a:Int) (b:Int)=((a ||| b:Nat):Int):=u64_or_nat a b aY ad
theorem Yz(a b:Nat)(aY:a<18446744073709551616)(ad:b<18446744073709551616):lD .u64 (a:Int) (b:Int)=((a &&& b:Nat):Int):=u64_and_nat a b aY ad
theorem YA(a b:Nat)(aY:a<256)(ad:b<256):kU .u8 (a:Int) (b:Int)=((a ||| b:Nat):Int):=u8_or_nat a b aY ad
theorem Qj(a b:Nat)(aY:a<256)(ad:b<256):lD .u8 (a:Int) (b:Int)=((a &&& b:Nat):Int):=u8_and_nat a b aY ad
theorem Qk(a:Nat)(aY:a<18446744073709551616):a ^^^ 18446744073709551615=18446744073709551615-a:=by
 have h:(BitVec.ofNat 64 a ^^^ BitVec.allOnes 64)= ~~~(BitVec.ofNat 64 a):=by rw[BitVec.xor_allOnes]
 have ae:=congrArg BitVec.toNat h
 rw[BitVec.toNat_not,BitVec.toNat_xor,BitVec.toNat_ofNat,BitVec.toNat_allOnes,Nat.mod_eq_of_lt aY]at ae
 exact ae
theorem YB{n:Int}(h:ix n):jH .u64 (IntKind.u64.wrap (IntKind.u64.wrap n*2)) (IntKind.u64.wrap (n.fdiv 9223372036854775808))=((hh n:Nat):Int):=by
 obtain⟨aa,ae⟩:=h
 rw[oH,oH,oH,Int.fdiv_eq_ediv_of_nonneg _ (by decide)]
 by_cases hn:0≤n
 ·have aB:n%18446744073709551616*2%18446744073709551616=((hh n:Nat):Int):=by unfold hh;rw[if_pos hn];omega
  have bl:n/ 9223372036854775808%18446744073709551616=((0:Nat):Int):=by omega
  rw[aB,bl,G1 _ _ (qY ⟨aa,ae⟩) (by decide),Nat.xor_zero]
 ·have aB:n%18446744073709551616*2%18446744073709551616=((18446744073709551615-hh n:Nat):Int):=by unfold hh;rw[if_neg hn];omega
  have bl:n/ 9223372036854775808%18446744073709551616=((18446744073709551615:Nat):Int):=by omega
  have aT:=qY ⟨aa,ae⟩
  rw[aB,bl,G1 _ _ (by omega) (by decide),Qk _ (by omega)]
  omega
theorem Ql{n:Int}(h:ix n):(bif decide (n<0)then jH .u64 18446744073709551615 (IntKind.u64.wrap (IntKind.u64.wrap n*2))else IntKind.u64.wrap (IntKind.u64.wrap n*2))=((hh n:Nat):Int):=by
 obtain⟨aa,ae⟩:=h
 rw[oH,oH]
 by_cases hn:0≤n
 ·have h0:decide (n<0)=false:=decide_eq_false (by omega)
  rw[h0];show n%18446744073709551616*2%18446744073709551616=((hh n:Nat):Int);unfold hh;rw[if_pos hn];omega
 ·have h0:decide (n<0)=true:=decide_eq_true (by omega)
  have aB:n%18446744073709551616*2%18446744073709551616=((18446744073709551615-hh n:Nat):Int):=by unfold hh;rw[if_neg hn];omega
  have aT:=qY ⟨aa,ae⟩
  rw[h0,cond_true,aB,show(18446744073709551615:Int)=((18446744073709551615:Nat):Int)from rfl,G1 _ _ (by decide) (by omega),Nat.xor_comm,Qk _ (by omega)]
  omega
theorem YC: ∀a,a<256→a ||| 128=a%128+128:=by decide+kernel
theorem YD(u:Nat):kU .u8 (IntKind.u8.wrap (u:Int)) 128=((u%128+128:Nat):Int):=by
 have e:IntKind.u8.wrap (u:Int)=((u%256:Nat):Int):=by rw[IntKind.wrap_u8'];omega
 rw[e,show(128:Int)=((128:Nat):Int)from rfl,YA _ _ (by omega) (by decide),YC _ (by omega)]
 omega
theorem YE(u:Nat):IntKind.u8.wrap (IntKind.u8.wrap ((u:Int).tmod 128)+128)=((u%128+128:Nat):Int):=by
 rw[Int.tmod_eq_emod_of_nonneg (by omega),IntKind.wrap_u8',IntKind.wrap_u8']
 omega
theorem y7{R A:Type}{b:A→Step R A}{f:Nat}{x y:A}(h:b x= .cz y):cJ b (f+1) x= .inr y:=by
 unfold cJ
 rw[h]
theorem y8{R A:Type}{b:A→Step R A}{f:Nat}{x y:A}(h:b x= .bh y):cJ b (f+1) x=cJ b f y:=by
 conv=>lhs;unfold cJ
 rw[h]
def kD(u:Nat):ByteArray:=bytesOf ((kV 9 u).map fun b:Nat=>(b:Int))
theorem Qm: ∀(l:List Int) (s:ByteArray),(l.foldl (fun r n=>r.push (UInt8.ofNat n.toNat)) s).data.toList=s.data.toList++l.map fun n=>UInt8.ofNat n.toNat
 |[],s=>by simp
 |n::l,s=>by
  rw[List.foldl_cons,Qm l,ByteArray.data_push,Array.toList_push,List.map_cons,List.append_assoc,List.singleton_append]
theorem Qn(l:List Int):(bytesOf l).data.toList=l.map fun n=>UInt8.ofNat n.toNat:=by
 unfold bytesOf
 rw[Qm]
 rfl
theorem ua(l:List Int):(bytesOf l).size=l.length:=by
 have h:=congrArg List.length (Qn l)
 rw[List.length_map,Array.length_toList]at h
 exact h
theorem wg{a b:ByteArray}(h:a.data.toList=b.data.toList):a=b:=ByteArray.ext (Array.toList_inj.1 h)
def y9(l:List Nat):List UInt8:=l.map UInt8.ofNat
theorem YF(u:Nat):(kD u).data.toList=y9 (kV 9 u):=by
 unfold kD y9
 rw[Qn,List.map_map]
 rfl
theorem YG(f u:Nat):(kV f u).length≤f+1:=by
 induction f generalizing u with
 |zero=>exact Nat.le_refl _
 |succ f aZ=>
  unfold kV
  split
  ·simp
  ·have:=aZ (u/ 128)
   simp only[List.length_cons];omega
theorem Qo(u:Nat):(kD u).size=(kV 9 u).length:=by
 unfold kD
 rw[ua,List.length_map]
theorem G2(k:Nat):128^k=2^(7*k):=by rw[Nat.pow_mul]
theorem Qp{k acc c:Nat}(aj:k≤9)(hc:c<256)(aY:acc<128^k)(hd:c%128*128^k<18446744073709551616):
 kU .u64 (acc:Int) (IntKind.u64.wrap ((IntKind.u64.wrap (lD .u8 (c:Int) 127))*2^(min (IntKind.i64.wrap (7*(k:Int))).toNat 64)))=((acc+c%128*128^k:Nat):Int):=by
 have aB:lD .u8 (c:Int) 127=((c%128:Nat):Int):=by
  rw[show(127:Int)=((127:Nat):Int)from rfl,Qj _ _ hc (by decide),nat_mask7]
 have bl:min (IntKind.i64.wrap (7*(k:Int))).toNat 64=7*k:=by
  rw[gx _ (by omega) (by omega)]
  omega
 have cx:IntKind.u64.wrap ((c%128:Nat):Int)=((c%128:Nat):Int):=by rw[oH];omega
 have eR:(((c%128:Nat):Int)*2^(7*k))=((c%128*128^k:Nat):Int):=by
  rw[G2];push_cast;rfl
 have ak:128^k≤128^9:=Nat.pow_le_pow_right (by decide) aj
 rw[aB,bl,cx,eR,oH]
 have oI:((c%128*128^k:Nat):Int)%18446744073709551616=((c%128*128^k:Nat):Int):=by omega
 rw[oI,Yy _ _ (by(have:(128:Nat)^9=9223372036854775808:=(by decide));omega) hd]
 rw[Nat.or_comm,nat_join (7*k) _ _ (by rw[G2];exact Nat.mul_mod_left _ _) (by rw[←G2];exact aY),Nat.add_comm]
theorem G3(e:UInt8):e.toNat<256:=e.toNat_lt
theorem Qq{s:ByteArray}{k:Nat}{e:UInt8}{acc:Nat}(he:s.data.toList[k]? =some e)(aj:k≤9)(aY:acc<128^k):qV s k (acc:Int)=
 if(0<k∧e.toNat=0)∨(k=9∧1<e.toNat)then .ret (0,0,4)else if e.toNat<128 then .ret (((acc+e.toNat%128*128^k:Nat):Int),((k+1:Nat):Int),0)else .bh ((acc+e.toNat%128*128^k:Nat):Int):=by
 have hu:=G3 e
 unfold qV
 dsimp only
 rw[he]
 dsimp only
 rw[cond_eq_ite]
 by_cases aa:(0<k∧e.toNat=0)∨(k=9∧1<e.toNat)
 ·rw[if_pos aa,if_pos]
  simp only[Bool.or_eq_true,Bool.and_eq_true,decide_eq_true_eq,beq_iff_eq];omega
 ·have hd:e.toNat%128*128^k<18446744073709551616:=by
   rcases Nat.lt_or_ge k 9 with gm|gm
   ·have ak:128^k≤128^8:=Nat.pow_le_pow_right (by decide) (by omega)
    have:e.toNat%128*128^k≤127*128^8:=Nat.mul_le_mul (by omega) ak
    exact Nat.lt_of_le_of_lt this (by decide)
   ·have za:k=9:=by omega
    subst za
    have:e.toNat%128*128^9≤1*128^9:=Nat.mul_le_mul (by omega) (Nat.le_refl _)
    exact Nat.lt_of_le_of_lt this (by decide)
  rw[if_neg aa,if_neg (by
   simp only[Bool.or_eq_true,Bool.and_eq_true,decide_eq_true_eq,beq_iff_eq]
   omega),Qp aj hu aY hd,cond_eq_ite]
  by_cases ae:e.toNat<128
  ·rw[if_pos ae,if_pos (by rw[decide_eq_true_eq];omega)]
  ·rw[if_neg ae,if_neg (by rw[decide_eq_true_eq];omega)]
theorem Qr{s:ByteArray}: ∀(m k acc:Nat) (U N:Int),k+m=s.size→acc<128^k→k≤9→bm (qV s) k m (acc:Int)= .inl (U,N,0)→
 ∃(u:Nat) (t:List UInt8),U=((acc+u*128^k:Nat):Int)∧s.data.toList.drop k=y9 (kV (9-k) u)++t∧N=((k+(kV (9-k) u).length:Nat):Int)∧(0<k→0<u)∧acc+u*128^k<18446744073709551616
 |0,k,acc,U,N,_,_,_,h=>by simp[bm]at h
 |m+1,k,acc,U,N,ai,aY,aj,h=>by
  have bM:k<s.data.toList.length:=by
   have:s.data.toList.length=s.size:=rfl
   omega
  obtain⟨e,he⟩: ∃e,s.data.toList[k]? =some e:=⟨_,List.getElem?_eq_getElem bM⟩
  have zb:s.data.toList.drop k=e::s.data.toList.drop (k+1):=by
   rw[List.drop_eq_getElem_cons bM]
   congr 1
   rw[List.getElem?_eq_getElem bM]at he
   exact Option.some.inj he
  have zlJ:=G3 e
  have Qs:128^(k+1)=128*128^k:=by rw[Nat.pow_succ,Nat.mul_comm]
  have zlK:128^k≤128^9:=Nat.pow_le_pow_right (by decide) aj
  have G4:(128:Nat)^9=9223372036854775808:=by decide
  unfold bm at h;rw[Qq he aj aY]at h
  split at h
  ·rename_i r ag
   split at ag
   ·cases ag;cases h
   ·rename_i aK
    split at ag
    ·rename_i hc
     cases ag;simp only[Sum.inl.injEq,Prod.mk.injEq]at h;obtain⟨rfl,rfl,_⟩:=h
     have ax:kV (9-k) e.toNat=[e.toNat]:=by
      rcases Nat.lt_or_ge k 9 with gm|gm
      ·obtain⟨f,hf⟩: ∃f,9-k=f+1:=⟨8-k,by omega⟩
       rw[hf];unfold kV;rw[if_pos hc]
      ·rw[show 9-k=0 by omega];rfl
     have nJ:acc+e.toNat*128^k<18446744073709551616:=by
      rcases Nat.lt_or_ge k 9 with gm|gm
      ·have ak:128^k≤128^8:=Nat.pow_le_pow_right (by decide) (by omega)
       have ae:e.toNat*128^k≤127*128^8:=Nat.mul_le_mul (by omega) ak
       have CB:127*(128:Nat)^8=9151314442816847872:=by decide
       omega
      ·have za:k=9:=by omega
       subst za
       have:e.toNat*128^9≤1*128^9:=Nat.mul_le_mul (by omega) (Nat.le_refl _)
       omega
     refine⟨e.toNat,s.data.toList.drop (k+1),by rw[Nat.mod_eq_of_lt hc],?_,by rw[ax];rfl,fun aJ=>by omega,nJ⟩
     rw[ax,zb];simp[y9]
    ·cases ag
  ·rename_i a ag
   split at ag
   ·cases ag
   ·split at ag<;>cases ag
  ·rename_i a ag
   split at ag
   ·cases ag
   ·rename_i aK
    split at ag
    ·cases ag
    ·rename_i hc
     cases ag
     have Qt:k≤8:=by
      rcases Nat.lt_or_ge k 9 with gm|gm
      ·omega
      ·exact absurd (Or.inr ⟨by omega,by omega⟩) aK
     have zc:acc+e.toNat%128*128^k<128^(k+1):=by
      have:e.toNat%128*128^k≤127*128^k:=Nat.mul_le_mul (by omega) (Nat.le_refl _)
      omega
     obtain⟨u,t,aa,ae,au,aR,bN⟩:=Qr m (k+1) (acc+e.toNat%128*128^k) U N (by omega) zc (by omega) h
     have zlL:=aR (by omega)
     have zd:acc+e.toNat%128*128^k+u*128^(k+1)=acc+(e.toNat%128+u*128)*128^k:=by
      rw[Qs,Nat.add_mul,Nat.add_assoc,Nat.mul_assoc]
     have ax:kV (9-k) (e.toNat%128+u*128)=e.toNat::kV (9-(k+1)) u:=by
      rw[show 9-k=(9-(k+1))+1 by omega]
      conv=>lhs;unfold kV
      rw[if_neg (by omega)]
      congr 1
      ·omega
      ·congr 1
       omega
     refine⟨e.toNat%128+u*128,t,by rw[aa,zd],?_,?_,fun _=>by omega,by rw[←zd];exact bN⟩
     ·rw[ax,zb,ae]
      simp[y9]
     ·rw[ax,au,List.length_cons]
      congr 1
      omega
theorem Qu{s:ByteArray}{U N:Int}(h:j1 s=(U,N,0)): ∃(u:Nat) (t:ByteArray),U=(u:Int)∧s=kD u++t∧N=(((kD u).size:Nat):Int)∧u<18446744073709551616:=by
 unfold j1 at h
 split at h
 ·rename_i r ag
  subst h;unfold y0 at ag;obtain⟨u,t,aa,ae,au,_,bN⟩:=Qr s.size 0 0 U N (by omega) (by decide) (by decide) ag
  refine⟨u,⟨t.toArray⟩,by rw[aa];simp,wg ?_,by rw[au,Qo];simp,by omega⟩
  rw[ByteArray.data_append,Array.toList_append,YF];simpa using ae
 ·simp at h
theorem YH(k:IntKind)(a b:Int):jH k a b=jH k b a:=by
 unfold jH
 rw[BitVec.xor_comm]
theorem YI(a:Nat)(h:a<9223372036854775808):jH .i64 (a:Int) 0=(a:Int):=by
 unfold jH
 have e:BitVec.ofInt IntKind.i64.bits (0:Int)=0#_:=rfl
 rw[e,BitVec.xor_zero]
 have:(BitVec.ofInt 64 (a:Int)).toNat=a:=ofInt_u64 a (by omega)
 show IntKind.i64.wrap (((BitVec.ofInt 64 (a:Int)).toNat:Nat):Int)=_
 rw[this,gx _ (by omega) (by omega)]
theorem YJ(a:Nat)(h:a<9223372036854775808):jH .i64 (a:Int) (-1)= -1-(a:Int):=by
 rw[YH]
 exact i64_not a h
theorem YK{u:Nat}(h:u<18446744073709551616):jH .i64 (IntKind.i64.wrap ((u:Int).fdiv 2)) (IntKind.i64.wrap (0-IntKind.i64.wrap (lD .u64 (u:Int) 1)))=y6 u:=by
 have aB:IntKind.i64.wrap ((u:Int).fdiv 2)=((u/ 2:Nat):Int):=by
  rw[Int.fdiv_eq_ediv_of_nonneg _ (by decide),gx _ (by omega) (by omega)]
  omega
 have bl:lD .u64 (u:Int) 1=((u%2:Nat):Int):=by
  rw[show(1:Int)=((1:Nat):Int)from rfl,Yz _ _ h (by decide),nat_mask1]
 rw[aB,bl]
 unfold y6
 split
 ·rename_i aJ
  rw[aJ];exact YI _ (by omega)
 ·rename_i aJ
  rw[show u%2=1 by omega]
  exact YJ _ (by omega)
theorem YL(s:ByteArray)(n:Nat)(h:n≤s.size):s=s.extract 0 n++s.extract n s.size:=by
 refine wg ?_
 rw[ByteArray.data_append,Array.toList_append,ByteArray.data_extract,ByteArray.data_extract,Array.toList_extract,Array.toList_extract]
 have ai:s.size=s.data.toList.length:=rfl
 rw[ai]
 simp[List.extract]
 rw[List.take_of_length_le (l:=List.drop n s.data.toList) (by rw[List.length_drop];exact Nat.le_refl _),List.take_append_drop]
theorem YM{r:Rd}(h:kA r≠0):ek r=(0,r):=by
 unfold ek
 rw[show(kA r != 0)=true by simpa using h]
 rfl
end Go.aN
namespace Go.aN
open Go Go.aN Go.eg
theorem YN{v:c6}(h:oG v=0):v.s.size≤60:=by
 unfold oG at h
 simp only[cond_eq_ite]at h
 repeat' split at h
 all_goals first
  |(cases h;done)
  |(rename_i aK _;simp at aK;omega)
  |(rename_i aK;simp at aK;omega)
theorem YO{a b:ByteArray}:et a b=true↔a=b:=by rw[tX];simp
theorem YP{v:c6}(h:oG v=0):(v.kind=0∧v.n=0∧v.s=⟨#[]⟩)∨((v.kind=1∨v.kind=2∨v.kind=3)∧v.s=⟨#[]⟩∧ -1099511627776≤v.n∧v.n≤1099511627776)∨(v.kind=4∧v.n=0∧v.s.size≤60):=by
 have bV:=YN h
 unfold oG at h
 cases c4:(((v.kind==0)||(v.kind==4))||((v.kind==1)||((v.kind==2)||(v.kind==3))))with
 |false=>rw[c4]at h;cases h
 |true=>
  rw[c4]at h
  cases fz:(bif((v.kind==0)||(v.kind==4))then(v.n==0)else(bif(v.kind==1)then((v.n==0)||(v.n==1))else(bif(v.kind==2)then y3 v.n else(decide (v.n≥0)&&decide (v.n≤63)))))with
  |false=>rw[fz]at h;cases h
  |true=>
   rw[fz]at h;simp only[cond_true,Bool.not_true,cond_false]at h;simp only[cond_eq_ite]at h
   split at h
   ·cases h
   ·split at h
    ·cases h
    ·rename_i au
     have ai:v.kind≠4→v.s=⟨#[]⟩:=fun aj=>by
      simp only[Bool.and_eq_true,bne_iff_ne,ne_eq,not_and,Decidable.not_not,Bool.not_eq_true']at au
      cases aK:et v.s ⟨#[]⟩with
      |true=>exact YO.1 aK
      |false=>exact absurd (au aK) aj
     simp only[Bool.or_eq_true,beq_iff_eq]at c4
     rcases c4 with (aJ|aR)|aa|ae|au
     ·exact .inl ⟨aJ,by simpa[aJ]using fz,ai (by omega)⟩
     ·exact .inr (.inr ⟨aR,by simpa[aR]using fz,bV⟩)
     ·refine .inr (.inl ⟨.inl aa,ai (by omega),?_⟩)
      simp[aa]at fz;omega
     ·refine .inr (.inl ⟨.inr (.inl ae),ai (by omega),?_⟩)
      simp[ae,y3]at fz;omega
     ·refine .inr (.inl ⟨.inr (.inr au),ai (by omega),?_⟩)
      simp[au]at fz;omega
end Go.aN
namespace Go.aN
open Go Go.aN Go.eg
theorem Qv{r:fk}(h:kC r):kC (gJ r).2:=by
 unfold gJ
 cases (jI r != 0)with
 |true=>exact h
 |false=>
  simp only[cond_false]
  split
  ·rename_i q aK
   have key: ∀(m k:Nat) (a:Int) (q:Int × fk),k+m≤10→bm (nI r) k m a= .inl q→kC q.2:=by
    intro m
    induction m with
    |zero=>intro k a r _ h;simp[bm]at h
    |succ m aZ=>
     intro k a q aj aq;unfold bm at aq
     split at aq
     ·rename_i q' ad
      simp only[Sum.inl.injEq]at aq;subst aq;obtain⟨aa,ae,au⟩:=h;unfold nI at ad;simp only[cond_eq_ite,decide_eq_true_eq]at ad
      have cP:IntKind.i64.wrap (r.at_+(k:Int))=r.at_+(k:Int):=gx _ (by omega) (by omega)
      rw[cP]at ad
      split at ad
      ·cases ad;exact⟨aa,ae,au⟩
      ·rename_i bM
       have dC:IntKind.i64.wrap (r.at_+(k:Int)+1)=r.at_+(k:Int)+1:=gx _ (by omega) (by omega)
       rw[dC]at ad
       split at ad
       ·split at ad
        ·cases ad;exact⟨aa,ae,au⟩
        ·split at ad
         ·cases ad;exact⟨by first|omega|(dsimp only;omega),by first|omega|(dsimp only;omega),au⟩
         ·cases ad
       ·cases ad
     ·cases aq
     ·exact aZ _ _ _ (by omega) aq
   exact key _ _ _ _ (by omega) aK
  ·exact h
theorem CC(r:fk)(n:Int):0≤(dB r n).1:=by
 unfold dB
 cases c4:(jI ((gJ r).2) != 0)with
 |true=>exact Int.le_refl _
 |false=>
  simp only[cond_false]
  cases fz:decide ((gJ r).1<0)with
  |true=>exact Int.le_refl _
  |false=>
   have fz:=of_decide_eq_false fz
   simp only[cond_false,cond_eq_ite]
   repeat' split
   all_goals first|exact Int.le_refl _|omega|(dsimp only;omega)
theorem G5{r:fk}{n:Int}(h:kC r):kC (dB r n).2:=by
 have h:=Qv h
 unfold dB
 simp only[cond_eq_ite]
 repeat' split
 all_goals exact h
theorem YQ{r:fk}{n:Int}(h:kC r):kC (mU r n).2:=by
 have h:=G5 (n:=n) h
 have hn:=CC r n
 unfold mU
 generalize hc:dB r n=c at*
 obtain⟨aa,ae,au⟩:=h
 have cP:IntKind.i64.wrap ((c.2.s.size:Int)-c.2.at_)=(c.2.s.size:Int)-c.2.at_:=gx _ (by omega) (by omega)
 rw[cP]
 simp only[cond_eq_ite,decide_eq_true_eq]
 repeat' split
 ·exact⟨aa,ae,au⟩
 ·exact⟨aa,ae,au⟩
 ·have dC:IntKind.i64.wrap (c.2.at_+c.1)=c.2.at_+c.1:=gx _ (by omega) (by omega)
  rw[dC];exact⟨by first|omega|(dsimp only;omega),by first|omega|(dsimp only;omega),au⟩
theorem wh(s:ByteArray)(n:Nat):(s.extract n s.size).data.toList=s.data.toList.drop n:=by
 rw[ByteArray.data_extract,Array.toList_extract]
 have ai:s.size=s.data.toList.length:=rfl
 rw[ai]
 simp[List.extract]
 rw[List.take_of_length_le (l:=List.drop n s.data.toList) (by rw[List.length_drop];exact Nat.le_refl _)]
theorem Qw(s:ByteArray)(n j:Nat):(s.extract n s.size).extract j (s.extract n s.size).size=s.extract (n+j) s.size:=wg (by
 rw[wh,wh,wh,List.drop_drop])
def qZ(r:Rd)(q:fk):Prop:=kC q∧r=⟨q.s.extract q.at_.toNat q.s.size,q.bad,q.made⟩
theorem ze{r:Rd}{q:fk}(h:qZ r q):kA r=jI q:=by
 rw[h.2]
 rfl
theorem YR{q:fk}(ao:kC q){k acc:Nat}(aj:k≤9)(aY:acc<128^k){e:UInt8}(he:(q.s.extract q.at_.toNat q.s.size).data.toList[k]? =some e):nI q k (acc:Int)=
 if(0<k∧e.toNat=0)∨(k=9∧1<e.toNat)then .ret (0,⟨q.s,q.at_,4,q.made⟩)else if e.toNat<128 then .ret (y6 (acc+e.toNat%128*128^k),⟨q.s,q.at_+((k+1:Nat):Int),q.bad,q.made⟩)else .bh ((acc+e.toNat%128*128^k:Nat):Int):=by
 obtain⟨aa,ae,au⟩:=ao
 have hu:=G3 e
 rw[wh,List.getElem?_drop]at he
 have bM:q.at_.toNat+k<q.s.size:=(List.getElem?_eq_some_iff.1 he).1
 have cP:IntKind.i64.wrap (q.at_+(k:Int))=q.at_+(k:Int):=gx _ (by omega) (by omega)
 have dC:IntKind.i64.wrap (q.at_+(k:Int)+1)=q.at_+((k+1:Nat):Int):=by rw[gx _ (by omega) (by omega)];omega
 have zf:(q.at_+(k:Int)).toNat=q.at_.toNat+k:=by omega
 unfold nI
 dsimp only
 rw[cP,decide_eq_false (show ¬q.at_+(k:Int)≥(q.s.size:Int)by omega),cond_false,zf,he]
 dsimp only
 rw[dC]
 have YS:(e.toNat:Int).tmod 128=lD .u8 (e.toNat:Int) 127:=by
  rw[show(127:Int)=((127:Nat):Int)from rfl,Qj _ _ hu (by decide),nat_mask7,Int.tmod_eq_emod_of_nonneg (by omega)]
  omega
 rw[YS,cond_eq_ite]
 by_cases aa:(0<k∧e.toNat=0)∨(k=9∧1<e.toNat)
 ·rw[if_pos aa,if_pos]
  simp only[Bool.or_eq_true,Bool.and_eq_true,decide_eq_true_eq,beq_iff_eq];omega
 ·have hd:e.toNat%128*128^k<9223372036854775808*2∧acc+e.toNat%128*128^k<18446744073709551616:=by
   rcases Nat.lt_or_ge k 9 with gm|gm
   ·have ak:128^k≤128^8:=Nat.pow_le_pow_right (by decide) (by omega)
    have:e.toNat%128*128^k≤127*128^8:=Nat.mul_le_mul (by omega) ak
    have CB:(128:Nat)^8=72057594037927936:=by decide
    omega
   ·have za:k=9:=by omega
    subst za
    have:e.toNat%128*128^9≤1*128^9:=Nat.mul_le_mul (by omega) (Nat.le_refl _)
    have G4:(128:Nat)^9=9223372036854775808:=by decide
    omega
  rw[if_neg aa,if_neg (by
   simp only[Bool.or_eq_true,Bool.and_eq_true,decide_eq_true_eq,beq_iff_eq]
   omega),Qp aj hu aY (by omega),cond_eq_ite]
  by_cases ae:e.toNat<128
  ·rw[if_pos ae,if_pos (by rw[decide_eq_true_eq];omega)]
   generalize acc+e.toNat%128*128^k=Z at*
   have v1:IntKind.i64.wrap ((Z:Int).fdiv 2)=((Z/ 2:Nat):Int):=by
    rw[Int.fdiv_eq_ediv_of_nonneg _ (by decide),gx _ (by omega) (by omega)]
    omega
   have v2:(Z:Int).tmod 2=((Z%2:Nat):Int):=by rw[Int.tmod_eq_emod_of_nonneg (by omega)];omega
   rw[v1,v2];unfold y6
   by_cases aJ:Z%2=0
   ·rw[if_pos aJ,aJ]
    rfl
   ·rw[if_neg aJ,show Z%2=1 by omega,gx _ (by omega) (by omega)]
    rfl
  ·rw[if_neg ae,if_neg (by rw[decide_eq_true_eq];omega)]
theorem YT{q:fk}(ao:kC q){k:Nat}{acc:Int}(aj:k≤9)(he:q.s.size≤q.at_.toNat+k):nI q k acc= .ret (0,⟨q.s,q.at_,5,q.made⟩):=by
 obtain⟨aa,ae,au⟩:=ao
 have cP:IntKind.i64.wrap (q.at_+(k:Int))=q.at_+(k:Int):=gx _ (by omega) (by omega)
 unfold nI
 dsimp only
 rw[cP,decide_eq_true (show q.at_+(k:Int)≥(q.s.size:Int)by omega)]
 rfl
theorem Qx{q:fk}(ao:kC q): ∀(m k acc:Nat),k+m=10→k≤9→acc<128^k→k≤(q.s.extract q.at_.toNat q.s.size).size→
 bm (nI q) k m (acc:Int)=match bm (qV (q.s.extract q.at_.toNat q.s.size)) k ((q.s.extract q.at_.toNat q.s.size).size-k) (acc:Int)with
  | .inl (U,N,E)=>if E=0 then .inl (y6 U.toNat,⟨q.s,q.at_+N,q.bad,q.made⟩)else .inl (0,⟨q.s,q.at_,E,q.made⟩)
  | .inr _=>.inl (0,⟨q.s,q.at_,5,q.made⟩)
 |0,k,acc,hm,aj,_,_=>by omega
 |m+1,k,acc,hm,aj,aY,bV=>by
  have zlM:(q.s.extract q.at_.toNat q.s.size).size=q.s.size-q.at_.toNat:=by rw[ByteArray.size_extract];omega
  rcases Nat.lt_or_ge k (q.s.extract q.at_.toNat q.s.size).size with bM|h1
  ·obtain⟨e,he⟩: ∃e,(q.s.extract q.at_.toNat q.s.size).data.toList[k]? =some e:=⟨_,List.getElem?_eq_getElem (by exact bM)⟩
   have ak:0<128^k:=Nat.pow_pos (by decide)
   obtain⟨j,af⟩: ∃j,(q.s.extract q.at_.toNat q.s.size).size-k=j+1:=⟨(q.s.extract q.at_.toNat q.s.size).size-k-1,by omega⟩
   rw[af];unfold bm;rw[YR ao aj aY he,Qq he aj aY]
   by_cases aa:(0<k∧e.toNat=0)∨(k=9∧1<e.toNat)
   ·rw[if_pos aa,if_pos aa]
    rfl
   ·rw[if_neg aa,if_neg aa]
    by_cases ae:e.toNat<128
    ·rw[if_pos ae,if_pos ae]
     dsimp only;rw[if_pos rfl,Int.toNat_natCast]
    ·rw[if_neg ae,if_neg ae]
     dsimp only
     have Qs:128^(k+1)=128*128^k:=by rw[Nat.pow_succ,Nat.mul_comm]
     have zc:acc+e.toNat%128*128^k<128^(k+1):=by
      have:e.toNat%128*128^k≤127*128^k:=Nat.mul_le_mul (by omega) (Nat.le_refl _)
      omega
     have Qt:k+1≤9:=by
      rcases Nat.lt_or_ge k 9 with gm|gm
      ·omega
      ·exact absurd (Or.inr ⟨by omega,by omega⟩) aa
     rw[Qx ao m (k+1) _ (by omega) Qt zc (by omega),show(q.s.extract q.at_.toNat q.s.size).size-(k+1)=j by omega]
  ·rw[show(q.s.extract q.at_.toNat q.s.size).size-k=0 by omega]
   unfold bm;rw[YT ao aj (by omega)]
def G6{α:Type}(R:Rd→α × Rd)(S:fk→α × fk):Prop:=∀r q,qZ r q→(R r).1=(S q).1∧qZ (R r).2 (S q).2
theorem YU{q:fk}(h:jI q≠0):gJ q=(0,q):=by
 unfold gJ
 rw[show(jI q != 0)=true by simpa using h]
 rfl
theorem wi:G6 ek gJ:=by
 intro r q h
 have ag:=h
 by_cases aJ:jI q=0
 ·have gU:=Qv h.1
  have ak:=h.1
  obtain⟨ao,rfl⟩:=h;unfold gJ G0 at gU⊢;unfold ek;rw[ze ag,aJ];rw[aJ]at gU;simp only[bne_self_eq_false,cond_false]at gU⊢
  have aq:=Qx ao 10 0 0 (by omega) (by omega) (by decide) (by omega)
  rw[Nat.sub_zero]at aq;rw[show((0:Nat):Int)=0 from rfl]at aq
  rw[aq]at gU⊢;generalize ai:q.s.extract q.at_.toNat q.s.size=rest at*;unfold j1 y0
  cases ax:bm (qV rest) 0 rest.size 0 with
  |inr a=>
   rw[ax]at gU;dsimp only at gU⊢;exact⟨rfl,gU,by rw[←ai];rfl⟩
  |inl p=>
   obtain⟨U,N,E⟩:=p;rw[ax]at gU;dsimp only at gU⊢
   by_cases gV:E=0
   ·subst gV
    have YV:j1 rest=(U,N,0):=by
     unfold j1 y0;rw[ax]
    obtain⟨u,t,su,aH,mV,hu⟩:=Qu YV;subst su mV;rw[if_pos rfl]at gU⊢;dsimp only at gU⊢
    have mW:rest.extract ((((kD u).size:Nat):Int)).toNat rest.size=q.s.extract (q.at_+(((kD u).size:Nat):Int)).toNat q.s.size:=by
     rw[←ai,Qw,Int.toNat_natCast]
     have:=ak.1
     congr 1
     omega
    refine⟨?_,gU,?_⟩
    ·show jH .i64 _ _=_
     rw[YK hu,Int.toNat_natCast]
    ·show(⟨rest.extract ((((kD u).size:Nat):Int)).toNat rest.size,q.bad,q.made⟩:Rd)=_
     rw[mW]
   ·rw[if_neg gV]at gU⊢
    rw[show(E != 0)=true by simpa using gV]
    exact⟨rfl,gU,by rw[←ai];rfl⟩
 ·rw[YU aJ,YM (by rw[ze h];exact aJ)]
  exact⟨rfl,h⟩
theorem Qy{r:Rd}{q:fk}(h:qZ r q):(r.rest.size:Int)=(q.s.size:Int)-q.at_:=by
 obtain⟨⟨aa,ae,au⟩,rfl⟩:=h
 show(((q.s.extract q.at_.toNat q.s.size).size:Nat):Int)=_
 rw[ByteArray.size_extract]
 omega
theorem YW(n:Int):G6 (fun r=>hg r n) (fun q=>dB q n):=by
 intro r q h
 obtain⟨aa,ae⟩:=wi r q h
 show(hg r n).1=(dB q n).1∧qZ (hg r n).2 (dB q n).2
 unfold hg dB
 rw[ze ae,aa]
 have hm:(if 0>n then(0:Int)else n)=bif decide (n<0)then 0 else n:=by
  rw[cond_eq_ite]
  by_cases hn:n<0
  ·rw[if_pos hn,if_pos (decide_eq_true hn)]
  ·rw[if_neg hn,if_neg (by simpa using hn)]
 rw[hm]
 have aj: ∀e:Int,qZ ⟨(ek r).2.rest,e,(ek r).2.made⟩ ⟨(gJ q).2.s,(gJ q).2.at_,e,(gJ q).2.made⟩:=fun e=>by
  obtain⟨ao,ag⟩:=ae;refine⟨ao,?_⟩
  rw[ag]
 cases (jI (gJ q).2 != 0)with
 |true=>exact⟨rfl,ae⟩
 |false=>
  simp only[cond_false]
  cases decide ((gJ q).1<0)with
  |true=>exact⟨rfl,aj 4⟩
  |false=>
   simp only[cond_false]
   cases decide ((gJ q).1>bif decide (n<0)then 0 else n)with
   |true=>exact⟨rfl,aj 3⟩
   |false=>exact⟨rfl,ae⟩
theorem YX(s:ByteArray)(n j:Nat)(h:n+j≤s.size):(s.extract n s.size).extract 0 j=s.extract n (n+j):=wg (by
 rw[ByteArray.data_extract,Array.toList_extract,wh,ByteArray.data_extract,Array.toList_extract]
 have ai:s.size=s.data.toList.length:=rfl
 simp only[List.extract,List.drop_zero,Nat.sub_zero]
 rw[show n+j-n=j by omega])
theorem Qz(n:Int):G6 (fun r=>kB r n) (fun q=>mU q n):=by
 intro r q h
 obtain⟨aa,ae⟩:=YW n r q h
 have zlN:=CC q n
 show(kB r n).1=(mU q n).1∧qZ (kB r n).2 (mU q n).2
 have gU:=YQ (n:=n) h.1
 unfold mU at gU⊢
 unfold kB
 dsimp only at aa ae
 rw[ze ae,aa]
 have bV:=Qy ae
 obtain⟨ao,ag⟩:=ae
 obtain⟨zg,G7,QA⟩:=ao
 generalize dB q n=c at*
 rw[ag]at bV⊢
 generalize hd:hg r n=d at*
 have cP:IntKind.i64.wrap ((c.2.s.size:Int)-c.2.at_)=(c.2.s.size:Int)-c.2.at_:=gx _ (by omega) (by omega)
 rw[cP]at gU⊢
 dsimp only at bV⊢
 rw[bV]
 cases gV:(jI c.2 != 0)with
 |true=>
  exact⟨rfl,⟨zg,G7,QA⟩,rfl⟩
 |false=>
  rw[gV]at gU;simp only[cond_false]at gU⊢
  by_cases ah:c.1>(c.2.s.size:Int)-c.2.at_
  ·rw[decide_eq_true ah]
   exact⟨rfl,⟨zg,G7,QA⟩,rfl⟩
  ·rw[decide_eq_false ah]at gU⊢
   simp only[cond_false]at gU⊢;refine⟨?_,gU,?_⟩
   ·rw[YX _ _ _ (by omega)]
    congr 1
    omega
   ·have dC:IntKind.i64.wrap (c.2.at_+c.1)=c.2.at_+c.1:=gx _ (by omega) (by omega)
    rw[dC,Qw]
    have:c.2.at_.toNat+c.1.toNat=(c.2.at_+c.1).toNat:=by omega
    rw[this]
theorem YY{r:Rd}{q:fk}(h:qZ r q):Cy r=CA q:=by
 have ai:=Qy h
 unfold Cy GY CA
 rw[ze h]
 cases gV:(jI q != 0)with
 |true=>rfl
 |false=>
  have aJ:jI q=0:=Qh gV
  simp only[cond_false];rw[ai,aJ]
  by_cases aq:q.at_<(q.s.size:Int)
  ·rw[decide_eq_true aq,decide_eq_true (by omega)]
  ·rw[decide_eq_false aq,decide_eq_false (by omega)]
end Go.aN
namespace Go.aN
open Go Go.eg
theorem YZ(u:Nat):bn .shr .u64 (u:Int) 7=((u/ 128:Nat):Int):=by
 show(u:Int).fdiv (2^(min (7:Int).toNat 64))=_
 rw[show(2:Int)^(min (7:Int).toNat 64)=128 from rfl,Int.fdiv_eq_ediv_of_nonneg _ (by decide)]
 omega
theorem Y0{u:Nat}(h:u<18446744073709551616):bn .quo .u64 (u:Int) 128=((u/ 128:Nat):Int):=by
 show IntKind.u64.wrap ((u:Int).tdiv 128)=_
 rw[Int.tdiv_eq_ediv_of_nonneg (by omega),oH]
 omega
def ub(R:Type)(c:Int × List Int):Step R (Int × List Int):=
 bif decide (c.1≥128)then .bh (bn .shr .u64 c.1 7,List.append c.2 [bn .or .u8 (IntKind.wrap .u8 c.1) 128])else .cz (c.1,c.2)
def uc(R:Type)(c:Int × List Int):Step R (Int × List Int):=
 bif decide (c.1≥128)then .bh (bn .quo .u64 c.1 128,List.append c.2 [IntKind.wrap .u8 (IntKind.wrap .u8 (bn .rem .u64 c.1 128)+128)])else .cz (c.1,c.2)
theorem Y1(R:Type){u:Nat}(acc:List Int)(h:u<128):ub R ((u:Int),acc)= .cz ((u:Int),acc):=by
 unfold ub
 rw[show decide ((u:Int)≥128)=false from decide_eq_false (by omega)]
 rfl
theorem QB(R:Type){u:Nat}(acc:List Int)(h: ¬u<128):ub R ((u:Int),acc)= .bh (((u/ 128:Nat):Int),acc++[((u%128+128:Nat):Int)]):=by
 unfold ub
 rw[show decide ((u:Int)≥128)=true from decide_eq_true (by omega),cond_true,YZ]
 show Step.bh (_,acc++[kU .u8 (IntKind.u8.wrap (u:Int)) 128])=_
 rw[YD]
theorem Y2(R:Type){u:Nat}(acc:List Int)(h:u<128):uc R ((u:Int),acc)= .cz ((u:Int),acc):=by
 unfold uc
 rw[show decide ((u:Int)≥128)=false from decide_eq_false (by omega)]
 rfl
theorem QC(R:Type){u:Nat}(acc:List Int)(h: ¬u<128)(ae:u<18446744073709551616):uc R ((u:Int),acc)= .bh (((u/ 128:Nat):Int),acc++[((u%128+128:Nat):Int)]):=by
 unfold uc
 rw[show decide ((u:Int)≥128)=true from decide_eq_true (by omega),cond_true,Y0 ae]
 show Step.bh (_,acc++[IntKind.u8.wrap (IntKind.u8.wrap ((u:Int).tmod 128)+128)])=_
 rw[YE]
theorem QD{R:Type}{b:Int × List Int→Step R (Int × List Int)}(aq: ∀(u:Nat) acc,u<128→b ((u:Int),acc)= .cz ((u:Int),acc))
 (ah: ∀(u:Nat) acc,¬u<128→u<18446744073709551616→b ((u:Int),acc)= .bh (((u/ 128:Nat):Int),acc++[((u%128+128:Nat):Int)])):
 ∀(f u F:Nat) (acc:List Int),u<128*128^f→u<18446744073709551616→f<F→∃(x:Nat) (l:List Int),cJ b F ((u:Int),acc)= .inr ((x:Int),acc++l)∧(kV f u).map (fun b:Nat=>(b:Int))=l++[(x:Int)]∧x<128
 |f,u,0,acc,h,_,hF=>absurd hF (Nat.not_lt_zero _)
 |f,u,F+1,acc,h,nJ,hF=>by
  by_cases hu:u<128
  ·refine⟨u,[],by rw[y7 (aq u acc hu),List.append_nil],?_,hu⟩
   cases f with
   |zero=>rfl
   |succ f=>unfold kV;rw[if_pos hu];rfl
  ·cases f with
   |zero=>exact absurd h (by simpa using hu)
   |succ f=>
    have ae:u/ 128<128*128^f:=by
     rw[Nat.pow_succ]at h;omega
    obtain⟨x,l,aB,bl,cx⟩:=QD aq ah f (u/ 128) F (acc++[((u%128+128:Nat):Int)]) ae (by omega) (by omega)
    refine⟨x,((u%128+128:Nat):Int)::l,?_,?_,cx⟩
    ·rw[y8 (ah u acc hu nJ),aB,List.append_assoc,List.singleton_append]
    ·unfold kV
     rw[if_neg hu,List.map_cons,bl,List.cons_append]
theorem QE{R:Type}{b:Int × List Int→Step R (Int × List Int)}(aq: ∀(u:Nat) acc,u<128→b ((u:Int),acc)= .cz ((u:Int),acc))
 (ah: ∀(u:Nat) acc,¬u<128→u<18446744073709551616→b ((u:Int),acc)= .bh (((u/ 128:Nat):Int),acc++[((u%128+128:Nat):Int)])){u:Nat}(nJ:u<18446744073709551616):
 ∃(x:Nat) (l:List Int),cJ b dk ((u:Int),[])= .inr ((x:Int),l)∧bytesOf (List.append l [IntKind.wrap .u8 (x:Int)])=kD u:=by
 obtain⟨x,l,aB,bl,cx⟩:=QD aq ah 9 u dk [] (Nat.lt_of_lt_of_le nJ (by decide)) nJ (by decide)
 refine⟨x,l,aB,?_⟩
 unfold kD
 rw[bl,IntKind.wrap_u8',show(x:Int)%256=(x:Int)by omega]
 rfl
theorem QF{n:Int}(h:ix n):bn .xor .u64 (bn .shl .u64 (IntKind.wrap .u64 n) 1) (IntKind.wrap .u64 (bn .shr .i64 n 63))=((hh n:Nat):Int):=by
 have:bn .shr .i64 n 63=n.fdiv 9223372036854775808:=rfl
 rw[this]
 exact YB h
theorem CD{n:Int}(h:ix n):gb n=kD (hh n):=by
 obtain⟨x,l,aB,bl⟩:=QE (R:=ByteArray) (b:=ub ByteArray) (fun u acc=>Y1 _ acc) (fun u acc h _=>QB _ acc h) (qY h)
 unfold gb
 rw[QF h]
 show Sum.elim _ _ (cJ (ub ByteArray) dk (((hh n:Nat):Int),[]))=_
 rw[aB]
 exact bl
theorem G8{n:Int}(h:ix n):j2 n=kD (hh n):=by
 obtain⟨x,l,aB,bl⟩:=QE (R:=ByteArray) (b:=uc ByteArray) (fun u acc=>Y2 _ acc) (fun u acc h ae=>QC _ acc h ae) (qY h)
 have aY:=Ql h
 unfold j2
 dsimp only
 have key: ∀v:Int,v=((hh n:Nat):Int)→Sum.elim (fun r=>r) (fun bD:Int × List Int=>bytesOf (List.append bD.2 [IntKind.wrap .u8 bD.1])) (cJ (uc ByteArray) dk (v,[]))=kD (hh n):=by
  rintro v rfl
  rw[aB];exact bl
 cases hd:decide (n<0)with
 |true=>
  rw[hd,cond_true]at aY;exact key _ aY
 |false=>
  rw[hd,cond_false]at aY;exact key _ aY
theorem zh{u:Nat}:(kD u).size≤10:=by rw[Qo];exact YG 9 u
def q0(d:Int × List Int):Prop:=∃(u f:Nat),d.1=(u:Int)∧u<18446744073709551616∧u<128*128^f∧d.2.length+f≤9
theorem QG{u:Nat}(h:u<18446744073709551616):q0 ((u:Int),[]):=⟨u,9,rfl,h,Nat.lt_of_lt_of_le h (by decide),Nat.le_refl _⟩
theorem QH{u:Nat}{acc:List Int}(h:q0 ((u:Int),acc))(hu: ¬u<128):q0 (((u/ 128:Nat):Int),acc++[((u%128+128:Nat):Int)]):=by
 obtain⟨v,f,aa,ae,au,aR⟩:=h
 have:u=v:=by have:(u:Int)=v:=aa;omega
 subst this
 cases f with
 |zero=>exact absurd au (by simpa using hu)
 |succ f=>
  have aR:acc.length+(f+1)≤9:=aR
  exact⟨u/ 128,f,rfl,by omega,by rw[Nat.pow_succ]at au;omega,by show(acc++[_]).length+f≤9;rw[List.length_append];simp;omega⟩
theorem CE{d:Int × List Int}(h:q0 d):d.2.length≤9:=by
 obtain⟨_,f,_,_,_,aR⟩:=h
 omega
theorem QI{d:Int × List Int}(h:q0 d): ∃(u:Nat) (acc:List Int),d=((u:Int),acc)∧u<18446744073709551616:=by
 obtain⟨u,_,aa,ae,_⟩:=h
 exact⟨u,d.2,by rw[←aa],ae⟩
theorem wj{n:Int}(h:ix n):oJ n:=by
 unfold oJ
 rw[QF h]
 refine⟨q0,fun d=>d.1.toNat,QG (qY h),?_,fun d hd=>⟨fun hc=>?_,fun hc=>?_⟩⟩
 ·have:=qY h
  show(((hh n:Nat):Int)).toNat<dk;unfold dk;omega
 ·obtain⟨u,acc,rfl,hu⟩:=QI hd
  have aq:acc.length≤9:=CE hd
  have hc: ¬u<128:=by have:=of_decide_eq_true hc;simp only at this;omega
  have ad:=QB Unit acc hc
  unfold ub at ad;rw[show decide ((u:Int)≥128)=true from decide_eq_true (by omega),cond_true]at ad
  have aB:=congrArg (fun s=>match s with|Step.bh x=>x.1|_=>0) ad
  have bl:=congrArg (fun s=>match s with|Step.bh x=>x.2|_=>[]) ad
  simp only at aB bl;refine⟨⟨?_,?_⟩,?_,?_⟩
  ·show acc.length+1≤maxLen
   unfold maxLen;omega
  ·show(acc.length+1)*1≤_
   omega
  ·show q0 (bn .shr .u64 (u:Int) 7,List.append acc [bn .or .u8 (IntKind.wrap .u8 (u:Int)) 128])
   rw[aB,bl];exact QH hd hc
  ·show(bn .shr .u64 (u:Int) 7).toNat<(u:Int).toNat
   rw[aB];omega
 ·have aq:=CE hd
  refine⟨?_,?_⟩
  ·show d.2.length+1≤maxLen
   unfold maxLen;omega
  ·show(d.2.length+1)*1≤_
   omega
theorem CF{n:Int}(h:ix n):pV n:=by
 have key: ∀v:Int,v=((hh n:Nat):Int)→∃(bp:(Int × (List Int))→Prop) (eS:(Int × (List Int))→Nat),bp (v,[])∧eS (v,[])<dk∧∀(d0:Int × (List Int)),bp d0→(
  ((decide (d0.1≥128))=true→(
   let v11:List Int:=([(IntKind.wrap .u8 ((IntKind.wrap .u8 (bn .rem .u64 d0.1 (128:Int)))+(128:Int)))]:List Int)
   (List.length d0.2+List.length v11≤maxLen∧(List.length d0.2+List.length v11)*1≤140737488355328)∧
   bp ((bn .quo .u64 d0.1 (128:Int)),(List.append d0.2 v11))∧eS ((bn .quo .u64 d0.1 (128:Int)),(List.append d0.2 v11))<eS d0))∧((decide (d0.1≥128))=false→(
   List.length d0.2+List.length ([IntKind.wrap .u8 d0.1]:List Int)≤maxLen∧(List.length d0.2+List.length ([IntKind.wrap .u8 d0.1]:List Int))*1≤140737488355328))):=by
   rintro v rfl
   refine⟨q0,fun d=>d.1.toNat,QG (qY h),?_,fun d hd=>⟨fun hc=>?_,fun hc=>?_⟩⟩
   ·have:=qY h
    show(((hh n:Nat):Int)).toNat<dk;unfold dk;omega
   ·obtain⟨u,acc,rfl,hu⟩:=QI hd
    have aq:acc.length≤9:=CE hd
    have hc: ¬u<128:=by have:=of_decide_eq_true hc;simp only at this;omega
    have ad:=QC Unit acc hc hu
    unfold uc at ad;rw[show decide ((u:Int)≥128)=true from decide_eq_true (by omega),cond_true]at ad
    have aB:=congrArg (fun s=>match s with|Step.bh x=>x.1|_=>0) ad
    have bl:=congrArg (fun s=>match s with|Step.bh x=>x.2|_=>[]) ad
    simp only at aB bl;refine⟨⟨?_,?_⟩,?_,?_⟩
    ·show acc.length+1≤maxLen
     unfold maxLen;omega
    ·show(acc.length+1)*1≤_
     omega
    ·show q0 (bn .quo .u64 (u:Int) 128,List.append acc [IntKind.wrap .u8 (IntKind.wrap .u8 (bn .rem .u64 (u:Int) 128)+128)])
     rw[aB,bl];exact QH hd hc
    ·show(bn .quo .u64 (u:Int) 128).toNat<(u:Int).toNat
     rw[aB];omega
   ·have aq:=CE hd
    refine⟨?_,?_⟩
    ·show d.2.length+1≤maxLen
     unfold maxLen;omega
    ·show(d.2.length+1)*1≤_
     omega
 have aY:=Ql h
 unfold pV
 refine⟨fun hd=>?_,fun hd=>?_⟩
 ·rw[hd,cond_true]at aY
  exact key _ aY
 ·rw[hd,cond_false]at aY
  exact key _ aY
def fF(s:ByteArray):Prop:=s.size≤140737488351232
theorem fF.i64{s:ByteArray}(h:fF s):ix (s.size:Int):=by unfold fF at h;exact⟨by omega,by omega⟩
theorem G9{s:ByteArray}(h:fF s):iy s=kD (hh s.size)++s:=by
 unfold iy
 rw[CD h.i64]
 rfl
theorem Y3{s:ByteArray}(h:fF s):q1 s=kD (hh s.size)++s:=by
 unfold q1
 rw[G8 h.i64]
 rfl
theorem wk{s:ByteArray}(h:fF s):(iy s).size≤140737488351242:=by
 rw[G9 h,ByteArray.size_append]
 have:=zh (u:=hh s.size)
 unfold fF at h
 omega
theorem zi{s:ByteArray}(h:fF s):sv s:=by
 refine⟨wj h.i64,?_⟩
 have:=zh (u:=hh s.size)
 rw[CD h.i64]
 unfold fF at h
 omega
theorem Y4{s:ByteArray}(h:fF s):CG s:=by
 refine⟨CF h.i64,?_⟩
 have:=zh (u:=hh s.size)
 rw[G8 h.i64]
 unfold fF at h
 omega
theorem Y5{s:ByteArray}(h:fF s):q1 s=iy s:=by rw[Y3 h,G9 h]
theorem Ha{n:Int}(h:ix n):j2 n=gb n:=by rw[G8 h,CD h]
theorem l9{n:Int}(h:ix n):(gb n).size≤10:=by rw[CD h];exact zh
end Go.aN
namespace Go.aN
open Go Go.eg
theorem Y6(r:Rd)(n:Int):0≤(hg r n).1:=by
 unfold hg
 cases c4:((kA ((ek r).2)) != 0)with
 |true=>exact Int.le_refl _
 |false=>
  simp only[cond_false]
  cases fz:decide ((ek r).1<0)with
  |true=>exact Int.le_refl _
  |false=>
   simp only[cond_false]
   have fz:=of_decide_eq_false fz
   cases q2:decide ((ek r).1>(if 0>n then 0 else n))with
   |true=>exact Int.le_refl _
   |false=>
    simp only[cond_false];omega
theorem Hb(v:c6):mX v=oG v:=by
 unfold mX oG cf
 dsimp only
 have:sw v.n=y3 v.n:=rfl
 rw[this]
 cases (v.kind==0)<;>cases (v.kind==4)<;>cases (v.kind==1)<;>cases (v.kind==2)<;>cases (v.kind==3)<;>rfl
theorem Y7(v:c6):wm v=Cz v:=by
 unfold wm Cz cf
 dsimp only
 cases (v.kind==0)<;>cases (v.kind==4)<;>cases (v.kind==1)<;>cases (v.kind==2)<;>cases (v.kind==3)<;>rfl
theorem Y8(v:c6):wm v=mX v:=by rw[Y7,Hb,Yx]
theorem q3(r:Rd):nK r=(r,kA r):=by
 unfold nK kA
 cases r.made<;>rfl
theorem ud(r:dA):pW r=(r,jI r):=by
 unfold pW jI
 cases r.made<;>rfl
def dM(s:ByteArray):Prop:=s.size≤4611686018427387904
theorem Hc{s:ByteArray}{k:Nat}(h:k<s.size):s.data.toList[k]? =some (s.data.toList.getD k 0)∧dP s (k:Int)=((s.data.toList.getD k 0).toNat:Int):=by
 have aq:k<s.data.toList.length:=h
 refine⟨by rw[List.getD_eq_getElem?_getD,List.getElem?_eq_getElem aq];rfl,?_⟩
 unfold dP
 rw[Int.toNat_natCast]
theorem QJ{s:ByteArray}(h:dM s):zj s=j1 s:=by
 unfold dM at h
 unfold zj j1 y0
 dsimp only
 rw[Int.toNat_natCast,zk (b:=qV s) (fun _ _=>True) s.size (fun i v hi _=>⟨?_,fun _ _=>trivial⟩) s.size 0 0 (Nat.zero_add _) trivial]
 ·cases bm (qV s) 0 s.size 0<;>rfl
 ·obtain⟨aB,bl⟩:=Hc hi
  unfold qV;dsimp only;rw[aB,bl];dsimp only
  have hw:IntKind.wrap .i64 ((i:Int)+1)=((i+1:Nat):Int):=by rw[gx _ (by omega) (by omega)];omega
  rw[hw];rfl
theorem nL{r:Rd}(h:dM r.rest):hj r=((ek r).2,(ek r).1):=by
 unfold hj ek
 rw[q3]
 dsimp only
 rw[QJ h]
 cases (kA r != 0)with
 |true=>rfl
 |false=>
  simp only[cond_false]
  cases ((j1 r.rest).2.2 != 0)<;>rfl
theorem QK{s:ByteArray}{a b:Nat}(h:dM s):dM (s.extract a b):=by
 unfold dM at h⊢
 rw[ByteArray.size_extract]
 omega
theorem nM{r:Rd}(h:dM r.rest):dM (ek r).2.rest:=by
 unfold ek
 simp only[cond_eq_ite]
 repeat' split
 all_goals first|exact h|exact QK h
theorem Y9{r:Rd}{n:Int}(h:dM r.rest):dM (hg r n).2.rest:=by
 have:=nM h
 unfold hg
 simp only[cond_eq_ite]
 repeat' split
 all_goals exact this
theorem wo{r:Rd}{n:Int}(h:dM r.rest):dM (kB r n).2.rest:=by
 have:=Y9 (n:=n) h
 unfold kB
 simp only[cond_eq_ite]
 repeat' split
 all_goals first|exact this|exact QK this
theorem QL{r:Rd}{n:Int}(h:dM r.rest):zl r n=((hg r n).2,(hg r n).1):=by
 unfold zl hg
 rw[nL h]
 dsimp only
 rw[q3]
 simp only[cond_eq_ite]
 repeat' split
 all_goals first|rfl|(simp_all[cI.den])
theorem wq{r:Rd}{n:Int}(h:dM r.rest):iz r n=((kB r n).2,(kB r n).1):=by
 unfold iz kB
 rw[QL h]
 dsimp only
 rw[q3]
 simp only[cond_eq_ite]
 repeat' split
 all_goals rfl
theorem Za(r:Rd)(e:Int):CH r e=y2 r e:=by
 unfold CH y2
 rw[q3]
theorem QM(r:Rd):(⟨r.rest,r.err,r.made⟩:Rd)=r:=rfl
theorem Zb{r:Rd}(h:dM r.rest):wu r=((wc r).2,(wc r).1):=by
 have aa:=nM h
 unfold wu wc wb GZ y4
 rw[nL h]
 dsimp only
 rw[nL aa,wq aa]
 simp only[q3,Za,Hb,QM]
 cases ((ek r).1==1)<;>cases ((ek r).1==2)<;>cases ((ek r).1==3)<;>cases ((ek r).1==4)<;>simp only[cond_true,cond_false,Bool.true_or,Bool.or_true,Bool.false_or,Bool.or_false,QM]<;>(cases (oG _ != 0)<;>simp only[cond_true,cond_false]<;>(cases (kA _ != 0)<;>rfl))
theorem Zc(r:Rd):(wv r).2=Cy r:=by
 unfold wv Hd Cy GY
 rw[q3]
 dsimp only
 cases (kA r != 0)<;>simp only[cond_true,cond_false]<;>rw[q3]<;>simp only[cond_eq_ite]<;>split<;>rfl
theorem wx{q:dA}(ao:kC q):oK q=((gJ q).2,(gJ q).1):=by
 have lE:=ao
 obtain⟨aa,ae,au⟩:=ao
 unfold oK gJ G0
 rw[ud]
 dsimp only
 cases (jI q != 0)with
 |true=>rfl
 |false=>
  simp only[cond_false]
  rw[show Int.toNat 10=10 from rfl,zk (b:=fun i v=>ig (fun x:Int × fk=>(x.2,x.1)) (nI q i v)) (fun _ _=>True) 10 (fun i v hi _=>⟨?_,fun _ _=>trivial⟩) 10 0 0 (Nat.zero_add _) trivial,
   ue (fun x:Int × fk=>(x.2,x.1)) (b:=nI q) (fun _ _=>rfl)]
  ·cases bm (nI q) 0 10 0<;>rfl
  ·have cP:IntKind.wrap .i64 (q.at_+(i:Int))=q.at_+(i:Int):=gx _ (by omega) (by omega)
   unfold nI;dsimp only
   cases hd:decide (IntKind.wrap .i64 (q.at_+(i:Int))≥(q.s.size:Int))with
   |true=>rfl
   |false=>
    have hd:=of_decide_eq_false hd
    rw[cP]at hd;obtain⟨j,af⟩: ∃j:Nat,q.at_+(i:Int)=(j:Int):=⟨(q.at_+i).toNat,by omega⟩
    obtain⟨aB,bl⟩:=Hc (s:=q.s) (k:=j) (by omega)
    simp only[cond_false];rw[cP,af,Int.toNat_natCast,aB,bl];dsimp only;show(bif _ then _ else bif _ then(bif _ then _ else _)else _)=ig _ (bif _ then _ else bif _ then _ else _)
    simp only[cond_eq_ite]
    split
    ·rfl
    ·split
     ·show(if _ then _ else _)=Step.ret (_,if _ then _ else _)
      have ad: ∀(c:Bool) (A:dA) (x y:Int),(if c=true then(Step.ret (A,x):Step (dA × Int) Int)else Step.ret (A,y))=Step.ret (A,if c=true then x else y):=fun c A x y=>by cases c<;>rfl
      exact ad _ _ _ _
     ·rfl
theorem QN{q:dA}{n:Int}(ao:kC q):zm q n=((dB q n).2,(dB q n).1):=by
 unfold zm dB
 rw[wx ao]
 dsimp only
 rw[ud]
 cases decide (n<0)<;>simp only[cond_true,cond_false]<;>simp only[cond_eq_ite]<;>(repeat' split)<;>rfl
theorem QO{q:dA}{n:Int}(ao:kC q):uf q n=((mU q n).2,(mU q n).1):=by
 obtain⟨aa,ae,au⟩:=G5 (n:=n) ao
 have hn:=CC q n
 unfold uf mU
 rw[QN ao]
 dsimp only
 rw[ud]
 dsimp only
 have cP:IntKind.i64.wrap (((dB q n).2.s.size:Int)-(dB q n).2.at_)=((dB q n).2.s.size:Int)-(dB q n).2.at_:=gx _ (by omega) (by omega)
 rw[cP]
 cases (jI (dB q n).2 != 0)with
 |true=>rfl
 |false=>
  simp only[cond_false]
  cases hd:decide ((dB q n).1>((dB q n).2.s.size:Int)-(dB q n).2.at_)with
  |true=>rfl
  |false=>
   have hd:=of_decide_eq_false hd
   have dC:IntKind.i64.wrap ((dB q n).2.at_+(dB q n).1)=(dB q n).2.at_+(dB q n).1:=gx _ (by omega) (by omega)
   simp only[cond_false];rw[dC];rfl
theorem Zd(q:dA):(zn q).2=CA q:=by
 unfold zn CA
 rw[ud]
 dsimp only
 rw[ud]
 simp only[cond_eq_ite]
 repeat' split
 all_goals rfl
end Go.aN
namespace Go.aN
open Go Go.eg
theorem Ze{s:ByteArray}(h:dM s):He s:=by
 unfold dM at h
 refine⟨⟨by omega,by omega⟩,fun i _=>i≤9,Nat.zero_le _,fun i d _ hi=>?_⟩
 have hi:i≤9:=hi
 intro v5 hc
 refine⟨?_,fun nH=>?_⟩
 ·show 0≤IntKind.wrap .i64 (7*(i:Int))
  rw[gx _ (by omega) (by omega)]
  omega
 ·have nH:=of_decide_eq_false nH
  show i+1≤9
  rcases Nat.lt_or_ge i 9 with gm|gm
  ·exact gm
  ·have:i=9:=by omega
   subst this;simp only[Bool.or_eq_false_iff,Bool.and_eq_false_iff]at hc
   rcases hc.2 with h|h
   ·exact absurd h (by decide)
   ·have:=of_decide_eq_false h
    omega
theorem Zf{s:ByteArray}(h:(j1 s).2.2=0):0≤(j1 s).2.1∧(j1 s).2.1≤(s.size:Int):=by
 obtain⟨u,t,aa,ae,au,aR⟩:=Qu (s:=s) (U:=(j1 s).1) (N:=(j1 s).2.1) (by rw[←h])
 rw[au]
 have:=congrArg ByteArray.size ae
 rw[ByteArray.size_append]at this
 omega
theorem oL{r:Rd}(h:dM r.rest):nN r:=by
 unfold nN
 rw[q3]
 intro v1 _
 refine⟨Ze h,fun hc=>?_⟩
 have hc:=Qh hc
 rw[QJ h]at hc⊢
 exact Zf hc
theorem Zg{r:Rd}{n:Int}(h:dM r.rest):Hf r n:=oL h
theorem sx{r:Rd}{n:Int}(h:dM r.rest):sy r n:=by
 refine⟨Zg h,?_⟩
 rw[QL h]
 show(_ != 0)=false→_
 rw[q3]
 intro _ hd
 have hd:=of_decide_eq_false hd
 have hn:=Y6 r n
 have hd: ¬(hg r n).1>((hg r n).2.rest.size:Int):=hd
 exact⟨⟨hn,by omega⟩,hn,by omega⟩
theorem Zh{r:Rd}(h:dM r.rest):CI r:=by
 have aa:=nM h
 unfold CI
 rw[nL h]
 dsimp only
 refine⟨oL h,⟨fun _=>⟨fun _=>oL aa,fun _ _=>sx aa⟩,fun _=>⟨fun _=>⟨fun _=>oL aa,fun _ _=>sx aa⟩,fun _=>⟨fun _=>oL aa,fun _ _=>sx aa⟩⟩⟩⟩
theorem Zi{r:Rd}{e:Int}(h:dM r.rest):dM (y2 r e).rest:=by
 unfold y2
 cases (kA r==0)<;>exact h
theorem Zj{r:Rd}(h:dM r.rest):dM (wc r).2.rest:=by
 have aa:=nM h
 have ae:dM (y4 r).rest:=by
  unfold y4;simp only[cond_eq_ite]
  repeat' split
  ·exact nM aa
  ·exact wo aa
  ·exact aa
 have au:dM (wb r).rest:=by
  unfold wb;simp only[cond_eq_ite]
  split
  ·exact Zi ae
  ·exact ae
 unfold wc
 simp only[cond_eq_ite]
 split<;>exact au
def wy(s:ByteArray):Int × Rd:=ek (we s)
def wz(s:ByteArray):Int × Rd:=ek (wy s).2
def wA(s:ByteArray):Int × Rd:=ek (wz s).2
def wB(s:ByteArray):ByteArray × Rd:=kB (wA s).2 24
def wC(s:ByteArray):ByteArray × Rd:=kB (wB s).2 24
def wD(s:ByteArray):ByteArray × Rd:=kB (wC s).2 24
def Hg(s:ByteArray):c6 × Rd:=wc (wD s).2
theorem Zk{s:ByteArray}(h:dM s):dM (wy s).2.rest∧dM (wz s).2.rest∧dM (wA s).2.rest∧dM (wB s).2.rest∧dM (wC s).2.rest∧dM (wD s).2.rest∧dM (Hg s).2.rest:=by
 have aa:dM (wy s).2.rest:=nM h
 have ae:dM (wz s).2.rest:=nM aa
 have au:dM (wA s).2.rest:=nM ae
 have aR:dM (wB s).2.rest:=wo au
 have bN:dM (wC s).2.rest:=wo aR
 have cL:dM (wD s).2.rest:=wo bN
 exact⟨aa,ae,au,aR,bN,cL,Zj cL⟩
theorem Zl{s:ByteArray}(h:dM s):CJ s:=by
 obtain⟨aa,ae,au,aR,bN,cL,eH⟩:=Zk h
 have aB:hj ⟨s,0,true⟩=((wy s).2,(wy s).1):=nL (r:=⟨s,0,true⟩) h
 have bl:hj (wy s).2=((wz s).2,(wz s).1):=nL aa
 have cx:hj (wz s).2=((wA s).2,(wA s).1):=nL ae
 have eR:iz (wA s).2 24=((wB s).2,(wB s).1):=wq au
 have oI:iz (wB s).2 24=((wC s).2,(wC s).1):=wq aR
 have ug:iz (wC s).2 24=((wD s).2,(wD s).1):=wq bN
 have CK:wu (wD s).2=((Hg s).2,(Hg s).1):=Zb cL
 unfold CJ
 simp only[aB,bl,cx,eR,oI,ug,CK]
 exact⟨oL (r:=⟨s,0,true⟩) h,oL aa,oL ae,sx au,sx aR,sx bN,Zh cL,sx eH⟩
theorem QP{s:ByteArray}(h:dM s):qZ (we s) (y5 s):=by
 refine⟨⟨Int.le_refl _,by show(0:Int)≤s.size;omega,h⟩,?_⟩
 show(⟨s,0,true⟩:Rd)=⟨s.extract 0 s.size,0,true⟩
 rw[show s.extract 0 s.size=s from wg (by rw[wh];rfl)]
theorem CL{q:dA}(ao:kC q):uh q:=by
 obtain⟨aa,ae,au⟩:=ao
 unfold uh
 rw[ud]
 intro v1 _
 refine⟨fun _ _=>True,trivial,fun i d hi _=>?_⟩
 have hi:i<10:=hi
 have cP:IntKind.wrap .i64 (q.at_+(i:Int))=q.at_+(i:Int):=gx _ (by omega) (by omega)
 show decide (IntKind.wrap .i64 (q.at_+(i:Int))≥(q.s.size:Int))=false→(0≤IntKind.wrap .i64 (q.at_+(i:Int))∧IntKind.wrap .i64 (q.at_+(i:Int))<(q.s.size:Int))∧_
 rw[cP]
 intro hd
 have hd:=of_decide_eq_false hd
 refine⟨⟨by omega,by omega⟩,fun _=>⟨?_,fun _=>trivial⟩⟩
 show 0≤IntKind.wrap .i64 (7*(i:Int))
 rw[gx _ (by omega) (by omega)]
 omega
theorem Zm{q:dA}{n:Int}(ao:kC q):Hh q n:=CL ao
theorem Zn{q:dA}{n:Int}(ao:kC q):Hi q n:=by
 obtain⟨aa,ae,au⟩:=G5 (n:=n) ao
 have hn:=CC q n
 refine⟨Zm ao,?_⟩
 rw[QN ao]
 show(_ != 0)=false→_
 rw[ud]
 intro _ hd
 have cP:IntKind.i64.wrap (((dB q n).2.s.size:Int)-(dB q n).2.at_)=((dB q n).2.s.size:Int)-(dB q n).2.at_:=gx _ (by omega) (by omega)
 have hd:decide ((dB q n).1>IntKind.i64.wrap (((dB q n).2.s.size:Int)-(dB q n).2.at_))=false:=hd
 rw[cP]at hd
 have hd:=of_decide_eq_false hd
 have dC:IntKind.i64.wrap ((dB q n).2.at_+(dB q n).1)=(dB q n).2.at_+(dB q n).1:=gx _ (by omega) (by omega)
 show 0≤(dB q n).2.at_∧(dB q n).2.at_≤IntKind.i64.wrap ((dB q n).2.at_+(dB q n).1)∧IntKind.i64.wrap ((dB q n).2.at_+(dB q n).1)≤((dB q n).2.s.size:Int)
 rw[dC]
 omega
end Go.aN
namespace Go.aN
open Go Go.eg
def oM(P:Int→Int→Bool)(x:ByteArray):Nat→Nat→Bool
 |_,0=>true
 |k,n+1=>!P (dP x (k:Int)) (k:Int)&&oM P x (k+1) n
theorem QQ{P:Int→Int→Bool}{x:ByteArray}{b:Nat→Unit→Step Bool Unit}(ad: ∀i v,b i v=bif P (dP x (i:Int)) (i:Int)then .ret false else .bh ()):
 ∀(n k:Nat),bm b k n ()=bif oM P x k n then .inr ()else .inl false
 |0,_=>rfl
 |n+1,k=>by
  unfold bm oM;rw[ad]
  cases P (dP x (k:Int)) (k:Int)with
  |true=>rfl
  |false=>exact QQ ad n (k+1)
theorem QR{x:ByteArray}{k:Nat}(aj:k<x.size):dP x (k:Int)=((x[k]'aj).toNat:Int):=by
 rw[(Hc aj).2,List.getD_eq_getElem?_getD,List.getElem?_eq_getElem (show k<x.data.toList.length from aj)]
 rfl
theorem QS{P:Int→Int→Bool}(kW: ∀c i,128≤c→P c i=true){x:ByteArray}{b:Int→Step Bool Int}
 (ad: ∀c,b c=bif cI.den .ma x c then(bif P (cI.den .mb x c) (cI.den .mc x c)then .ret false else .bh (cI.den .kX x c))else .cz c):
 ∀(n p F:Nat),x.size-p=n→n<F→∃v,cJ b F (p:Int)=bif oM P x p n then .inr v else .inl false
 |n,p,0,_,h=>absurd h (Nat.not_lt_zero _)
 |0,p,F+1,hn,_=>by
  refine⟨(p:Int),?_⟩
  have:cI.den .ma x (p:Int)=false:=decide_eq_false (by rw[Int.toNat_natCast];omega)
  rw[y7 (y:=(p:Int)) (by rw[ad,this,cond_false]),oM,cond_true]
 |n+1,p,F+1,hn,hF=>by
  have ak:p<x.size:=by omega
  have aa:cI.den .ma x (p:Int)=true:=decide_eq_true (by rw[Int.toNat_natCast];exact ak)
  have au:cI.den .mc x (p:Int)=(p:Int):=by show((p:Int).toNat:Int)=p;rw[Int.toNat_natCast]
  have ae:cI.den .mb x (p:Int)=((Utf8.decode x p).1:Int):=by show((Utf8.decode x (p:Int).toNat).1:Int)=_;rw[Int.toNat_natCast]
  have aR:cI.den .kX x (p:Int)=((p+(Utf8.decode x p).2:Nat):Int):=by show(((p:Int).toNat+(Utf8.decode x (p:Int).toNat).2:Nat):Int)=_;rw[Int.toNat_natCast]
  rcases Nat.lt_or_ge (x[p]'ak).toNat 128 with aY|aY
  ·have hd:=decode_ascii x p ak aY
   have ax:((Utf8.decode x p).1:Int)=dP x (p:Int):=by rw[hd,QR ak]
   have Zo:p+(Utf8.decode x p).2=p+1:=by rw[hd]
   cases aK:P (dP x (p:Int)) (p:Int)with
   |true=>
    refine⟨0,?_⟩
    unfold cJ oM;rw[ad,aa,cond_true,ae,au,ax,aK];rfl
   |false=>
    obtain⟨v,aZ⟩:=QS kW ad n (p+1) F (by omega) (by omega)
    refine⟨v,?_⟩
    rw[y8 (y:=((p+1:Nat):Int)) (by rw[ad,aa,cond_true,ae,au,ax,aK,cond_false,aR,Zo]),aZ]
    conv=>rhs;rw[oM]
    rw[aK];rfl
  ·have hd:=(decode_high x p ak aY).1
   have aB:P ((Utf8.decode x p).1:Int) (p:Int)=true:=kW _ _ (by omega)
   have bl:P (dP x (p:Int)) (p:Int)=true:=kW _ _ (by rw[QR ak];omega)
   refine⟨0,?_⟩
   unfold cJ oM;rw[ad,aa,cond_true,ae,au,aB,bl];rfl
theorem Zp{P:Int→Int→Bool}(kW: ∀c i,128≤c→P c i=true){x:ByteArray}(nJ:x.size<18446744073709551616):
 ∃(bp:Int→Prop) (eS:Int→Nat),bp 0∧eS 0<dk∧∀(d0:Int),bp d0→(cI.den .ma x d0=true→(P (cI.den .mb x d0) (cI.den .mc x d0)=false→bp (cI.den .kX x d0)∧eS (cI.den .kX x d0)<eS d0)):=by
 refine⟨fun d=>0≤d,fun d=>x.size-d.toNat,Int.le_refl _,by unfold dk;show x.size-(0:Int).toNat<_;omega,fun d hd aa ae=>?_⟩
 obtain⟨p,rfl⟩: ∃p:Nat,d=p:=⟨d.toNat,(Int.toNat_of_nonneg hd).symm⟩
 have ak:p<x.size:=by have:=of_decide_eq_true aa;rwa[Int.toNat_natCast]at this
 have au:cI.den .mc x (p:Int)=(p:Int):=by show((p:Int).toNat:Int)=p;rw[Int.toNat_natCast]
 have wE:cI.den .mb x (p:Int)=((Utf8.decode x p).1:Int):=by show((Utf8.decode x (p:Int).toNat).1:Int)=_;rw[Int.toNat_natCast]
 have aR:cI.den .kX x (p:Int)=((p+(Utf8.decode x p).2:Nat):Int):=by show(((p:Int).toNat+(Utf8.decode x (p:Int).toNat).2:Nat):Int)=_;rw[Int.toNat_natCast]
 rcases Nat.lt_or_ge (x[p]'ak).toNat 128 with aY|aY
 ·have hd:=decode_ascii x p ak aY
  rw[aR,hd];refine⟨by show(0:Int)≤_;omega,?_⟩
  show x.size-(((p+1:Nat):Int)).toNat<x.size-((p:Int)).toNat;omega
 ·have hd:=(decode_high x p ak aY).1
  rw[wE,au,kW _ _ (by omega)]at ae
  cases ae
def pX(c i:Int):Bool:=(!(decide (c≥97)&&decide (c≤122)))&&((i==0)||(((c != 95)&&(c != 45))&&((decide (c<48))||(decide (c>57)))))
theorem QT(c i:Int)(h:128≤c):pX c i=true:=by
 unfold pX
 have aa:decide (c≤122)=false:=decide_eq_false (by omega)
 have ae:(c != 95)=true:=by simp;omega
 have au:(c != 45)=true:=by simp;omega
 have aR:decide (c>57)=true:=decide_eq_true (by omega)
 simp only[aa,ae,au,aR,Bool.and_false,Bool.not_false,Bool.and_true,Bool.or_true,Bool.true_and]
def valid(x:ByteArray):Bool:=bif((decide ((ByteArray.size x:Int)<1))||(decide ((ByteArray.size x:Int)>24)))then false else oM pX x 0 x.size
theorem sz(x:ByteArray):iA x=valid x:=by
 unfold iA valid
 cases h:((decide ((ByteArray.size x:Int)<1))||(decide ((ByteArray.size x:Int)>24)))with
 |true=>rfl
 |false=>
  simp only[Bool.or_eq_false_iff,decide_eq_false_iff_not]at h;simp only[cond_false];obtain⟨v,ax⟩:=QS QT (x:=x) (b:=fun(aM:Int)=>bif cI.den .ma x aM then(bif pX (cI.den .mb x aM) (cI.den .mc x aM)then Step.ret false else .bh (cI.den .kX x aM))else .cz aM) (fun _=>rfl) x.size 0 dk (by omega) (by unfold dk;omega)
  have:(cJ (fun(aM:Int)=>bif cI.den .ma x aM then(bif pX (cI.den .mb x aM) (cI.den .mc x aM)then Step.ret false else .bh (cI.den .kX x aM))else .cz aM) dk 0:Bool⊕Int)=_:=ax
  show Sum.elim _ _ (cJ (fun(aM:Int)=>bif cI.den .ma x aM then(bif pX (cI.den .mb x aM) (cI.den .mc x aM)then Step.ret false else .bh (cI.den .kX x aM))else .cz aM) dk 0:Bool⊕Int)=_
  rw[this]
  cases oM pX x 0 x.size<;>rfl
theorem q4(x:ByteArray):nO x:=by
 intro h
 simp only[Bool.or_eq_false_iff,decide_eq_false_iff_not]at h
 exact Zp QT (x:=x) (by omega)
theorem q5(x:ByteArray):iB x=valid x:=by
 unfold iB valid
 dsimp only
 cases h:((decide ((ByteArray.size x:Int)<1))||(decide ((ByteArray.size x:Int)>24)))with
 |true=>rfl
 |false=>
  simp only[cond_false];rw[Int.toNat_natCast];show Sum.elim _ _ (bm (fun(i6:Nat) (_:Unit)=>bif pX (dP x (i6:Int)) (i6:Int)then(Step.ret false:Step Bool Unit)else .bh ()) 0 x.size ())=_
  rw[QQ (P:=pX) (x:=x) (fun _ _=>rfl)]
  cases oM pX x 0 x.size<;>rfl
theorem oN(x:ByteArray):nP x:=by
 intro h
 simp only[Bool.or_eq_false_iff,decide_eq_false_iff_not]at h
 omega
end Go.aN
namespace Go.aN
open Go Go.eg
theorem wF(a b:ByteArray):ByteArray.size (ByteArray.append a b)=a.size+b.size:=ByteArray.size_append
theorem wG{n:Int}(aa: -1099511627776≤n)(ae:n≤1099511627776):ix n:=⟨by omega,by omega⟩
structure QU (v:c6):Prop where
 k:ix v.kind
 n:ix v.n
 s:fF v.s
theorem Zq{v:c6}(h:mX v≠0):pY v=gb 0:=by
 unfold pY
 rw[show(mX v != 0)=true by simpa using h]
 rfl
theorem Zr{s:ByteArray}(h:s.size≤60):fF s:=by unfold fF;omega
theorem Zs{s:ByteArray}(h:s.size≤60):(iy s).size≤70:=by
 rw[G9 (Zr h),ByteArray.size_append]
 have:=zh (u:=hh s.size)
 omega
theorem Hj:ix 0:=wG (by decide) (by decide)
theorem Zt(v:c6):(pY v).size≤80:=by
 have aJ:=l9 Hj
 by_cases h:mX v=0
 ·have hc:oG v=0:=by rw[←Hb];exact h
  unfold pY;rw[show(mX v != 0)=false by simpa using h]
  rcases YP hc with⟨aa,ae,au⟩|⟨aa,ae,au,aR⟩|⟨aa,ae,au⟩
  ·rw[aa]
   show(gb 0).size≤80;omega
  ·have hn:=l9 (wG au aR)
   rcases aa with aa|aa|aa
   ·rw[aa]
    show(ByteArray.append (gb 1) (gb v.n)).size≤80;rw[wF]
    have:=l9 (n:=1) (wG (by decide) (by decide))
    omega
   ·rw[aa]
    show(ByteArray.append (gb 2) (gb v.n)).size≤80;rw[wF]
    have:=l9 (n:=2) (wG (by decide) (by decide))
    omega
   ·rw[aa]
    show(ByteArray.append (gb 3) (gb v.n)).size≤80;rw[wF]
    have:=l9 (n:=3) (wG (by decide) (by decide))
    omega
  ·have ai:=Zs au
   rw[aa];show(ByteArray.append (gb 4) (iy v.s)).size≤80;rw[wF]
   have:=l9 (n:=4) (wG (by decide) (by decide))
   omega
 ·rw[Zq h]
  omega
def CM(k n:Int)(s:ByteArray)(b:Bool):Prop:=(b=true→(oJ n∧(gb k).size+(gb n).size≤9223372036854775807))∧(b=false→((k==4)=true→(sv s∧(gb k).size+(iy s).size≤9223372036854775807)))
theorem Zu{v:c6}(ax:QU v):Hk v:=by
 have key: ∀(k n:Int) (s:ByteArray),ix k→ix n→fF s→(oJ k)∧((k==1)=true→CM k n s (k==1))∧((k==1)=false→((k==2)=true→CM k n s (k==2))∧((k==2)=false→CM k n s (k==3))):=by
  intro k n s aj hn ai
  have cg:=l9 aj
  have a2:=l9 hn
  have a3:=wk ai
  have af: ∀b,CM k n s b:=fun b=>⟨fun _=>⟨wj hn,by omega⟩,fun _ _=>⟨zi ai,by omega⟩⟩
  exact⟨wj aj,fun _=>af _,fun _=>⟨fun _=>af _,fun _=>af _⟩⟩
 exact⟨fun _=>key 0 0 ⟨#[]⟩ Hj Hj (by unfold fF;exact Nat.zero_le _),fun _=>key v.kind v.n v.s ax.k ax.n ax.s⟩
structure CN (q:bQ):Prop where
 k:ix q.kind
 n:ix q.dO
 d:ix q.key.dev
 c:fF q.key.cK
 a:fF q.key.attr
 m:fF q.name
 v:QU q.value
 t:fF q.text
theorem QV{q:bQ}(h:CN q):(gb q.kind).size≤10∧(gb q.dO).size≤10∧(gb q.key.dev).size≤10∧(iy q.key.cK).size≤140737488351242∧(iy q.key.attr).size≤140737488351242∧(iy q.name).size≤140737488351242∧(pY q.value).size≤80∧(iy q.text).size≤140737488351242:=
 ⟨l9 h.k,l9 h.n,l9 h.d,wk h.c,wk h.a,wk h.m,Zt _,wk h.t⟩
theorem Zv{q:bQ}(h:CN q):dM (zo q):=by
 obtain⟨aa,ae,au,aR,bN,cL,eH,nH⟩:=QV h
 have Zw:(pY ⟨q.value.kind,q.value.n,q.value.s⟩).size≤80:=eH
 unfold dM zo
 simp only[wF]
 omega
theorem Zx{q:bQ}(h:CN q):Hl q:=by
 obtain⟨aa,ae,au,aR,bN,cL,eH,nH⟩:=QV h
 have Zw:(pY ⟨q.value.kind,q.value.n,q.value.s⟩).size≤80:=eH
 refine⟨wj h.k,wj h.n,?_,wj h.d,?_,zi h.c,?_,zi h.a,?_,zi h.m,?_,Zu h.v,?_,zi h.t,?_⟩<;>(try simp only[wF])<;>omega
end Go.aN
namespace Go.aN
open Go Go.eg
theorem Hm{l:List ByteArray}(h:l.length≤1000000):wH l:=by
 unfold wH maxLen
 omega
theorem Zy{l:List cX}(h:l.length≤1000000):CO l:=by
 unfold CO maxLen
 omega
theorem Zz(l:List ByteArray):CP l:=by
 unfold CP
 repeat' (first|exact trivial|exact q4 _|intro _|refine And.intro ?_ ?_|refine Exists.intro (fun _ _=>True) (And.intro trivial ?_))
theorem Hn(a:Attr):wI a:=by
 unfold wI
 repeat' (first|exact trivial|exact q4 _|exact Zz _|intro _|refine And.intro ?_ ?_|refine Exists.intro (fun _ _=>True) (And.intro trivial ?_))
theorem Ho(a:Attr)(v:c6):zp a v:=Hn a
theorem zq{α:Type}{l:List α}{i:Nat}{d:α}(h:i<l.length):List.getD l i d∈l:=by
 rw[List.getD_eq_getElem?_getD,List.getElem?_eq_getElem h]
 exact List.getElem_mem h
theorem toNat_cast(n:Nat):Int.toNat (n:Int)=n:=Int.toNat_natCast n
theorem QW{c:aO}{x:ByteArray}(h: ∀a∈c.attrs,a.enum.length≤64):zr c x:=by
 refine⟨fun _ _=>True,trivial,fun i _ hi _=>⟨fun _=>Hm ?_,fun _=>trivial⟩⟩
 rw[toNat_cast]at hi⊢
 have:=h _ (zq (d:=aw .Attr) hi)
 omega
theorem QX(x y:List ByteArray):Hp x y:=by
 intro h
 have h:((x.length:Int) != (y.length:Int))=false:=h
 have h:(x.length:Int)=(y.length:Int):=by simpa using h
 refine⟨fun _ _=>True,trivial,fun i _ hi _=>⟨?_,fun _=>trivial⟩⟩
 rw[toNat_cast]at hi
 omega
theorem ZA(a b:Attr):Hq a b:=fun _=>QX _ _
theorem ZB(x:cX)(a b:Attr):CQ x a b:=by
 unfold CQ
 repeat' (first|exact trivial|exact Ho _ _|exact ZA _ _|intro _|refine And.intro ?_ ?_)
theorem ZC{c:aO}(a:Attr)(x:cX)(h: ∀a∈c.attrs,a.enum.length≤64):CR c a x:=by
 unfold CR
 repeat' (first|exact trivial|exact QW h|exact ZB _ _ _|intro _|refine And.intro ?_ ?_)
theorem sA{α:Type}{l:List α}{i:Int}(aJ:0≤i)(h:i≤l.length):iC l.length none (some i):=by
 simp only[iC]
 omega
theorem ZD{c:aO}{i:Int}(h: ∀a∈c.attrs,a.enum.length≤64)(aJ:0≤i)(aa:i<c.commands.length):CS c i:=by
 unfold CS
 repeat' (first|exact trivial|exact aJ|exact aa|exact q4 _|exact Hn _|exact ZC _ _ h|exact sA aJ (by omega)|intro _|refine And.intro ?_ ?_|refine Exists.intro (fun _ _=>True) (And.intro trivial ?_))
theorem jc{a:Int}(h:(a != 0)=false):a=0:=by simpa using h
theorem ZE{l:List ByteArray}(h:wJ l=0):l.length≤64:=by
 unfold wJ at h
 dsimp only at h
 simp only[cond_eq_ite]at h
 split at h
 ·cases h
 ·rename_i ai
  simp only[Bool.or_eq_true,decide_eq_true_eq,not_or]at ai;omega
theorem Hr{a:Attr}(h:kY a=0):a.enum.length≤64:=by
 unfold kY at h
 dsimp only at h
 simp only[cond_eq_ite]at h
 repeat' split at h
 all_goals first|(cases h;done)|exact ZE h|(rename_i ai;simp only[decide_eq_true_eq]at ai;omega)
theorem ZF(c:aO):Hs c:=by
 refine⟨q4 _,fun _ _=>⟨fun k _=>∀j,j<k→∀a,c.attrs[j]? =some a→a.enum.length≤64,fun j af=>absurd af (by omega),fun i _ hi b1=>⟨Hn _,fun nH=>⟨?_,⟨fun _ _=>True,trivial,fun _ _ _ _ _=>trivial,fun _ _=>?_⟩⟩⟩,fun _ b1=>?_⟩⟩
 ·rw[toNat_cast]at hi
  exact sA (by omega) (by omega)
 ·have nH:=Hr (jc nH)
  rw[toNat_cast]at hi nH;show ∀j,j<i+1→∀a,c.attrs[j]? =some a→a.enum.length≤64;intro j af a aY
  by_cases gy:j=i
  ·subst gy
   rw[List.getD_eq_getElem?_getD,aY]at nH
   exact nH
  ·exact b1 j (by omega) a aY
 ·rw[toNat_cast]at b1
  have c4: ∀a∈c.attrs,a.enum.length≤64:=fun a aY=>by
   obtain⟨j,af,rfl⟩:=List.mem_iff_getElem.1 aY;exact b1 j af _ (List.getElem?_eq_getElem af)
  refine⟨fun _ _=>True,trivial,fun i _ hi _=>⟨ZD c4 (by omega) (by rw[toNat_cast]at hi;omega),fun _=>trivial⟩,fun _ _=>⟨fun _ _=>True,trivial,fun i _ hi _=>⟨q4 _,fun _=>⟨sA (by omega) (by rw[toNat_cast]at hi;omega),fun _=>trivial⟩⟩⟩⟩
theorem ZG(l:List aO):Ht l:=by
 refine fun _=>⟨fun _ _=>True,trivial,fun i _ hi _=>⟨ZF _,fun _=>⟨sA (by omega) (by rw[toNat_cast]at hi;omega),⟨fun _ _=>True,trivial,fun _ _ _ _ _=>trivial,fun _ _=>trivial⟩⟩⟩⟩
theorem hD{n:Int}(aa: -9223372036854775808≤n)(ae:n≤9223372036854775807):IntKind.wrap .i64 n=n:=by
 rw[IntKind.wrap_i64]
 omega
theorem Hu(h:Home):zt h:=by
 refine⟨ZG _,fun _ au=>⟨fun _ _=>True,trivial,fun i _ hi _ _=>⟨fun ax=>?_,fun _ _=>⟨q4 _,fun _ _=>trivial⟩⟩⟩⟩
 have ax:=of_decide_eq_true ax
 have au:=of_decide_eq_false au
 rw[toNat_cast]at hi
 show 0≤IntKind.wrap .i64 ((i:Int)-1)∧IntKind.wrap .i64 ((i:Int)-1)<(h.a8.length:Int)
 rw[hD (by omega) (by omega)]
 omega
theorem Hv(h:Home)(x:Int):zu h x:=Hu h
end Go.aN
namespace Go.aN
open Go Go.eg
def bH(q:Nat→Bool)(n:Nat):Option Nat:=(List.range n).find? q
theorem gp{q:Nat→Bool}{n i:Nat}(h:bH q n=some i):i<n∧q i=true∧∀j,j<i→q j=false:=by
 unfold bH at h
 rw[List.find?_range_eq_some]at h
 obtain⟨aa,ae,au⟩:=h
 exact⟨List.mem_range.1 ae,aa,fun j af=>by simpa using au j af⟩
theorem me{q:Nat→Bool}{n:Nat}(h:bH q n=none): ∀j,j<n→q j=false:=fun j af=>by
 unfold bH at h
 rw[List.find?_range_eq_none]at h
 simpa using h j af
theorem tY{q:Nat→Bool}{n:Nat}(h: ∀j,j<n→q j=false):bH q n=none:=by
 unfold bH
 rw[List.find?_range_eq_none]
 exact fun j af=>by simp[h j af]
theorem wa{q:Nat→Bool}{n i:Nat}(hi:i<n)(aK:q i=true)(hn: ∀j,j<i→q j=false):bH q n=some i:=by
 unfold bH
 rw[List.find?_range_eq_some]
 exact⟨aK,List.mem_range.2 hi,fun j af=>by simp[hn j af]⟩
theorem ui{q q':Nat→Bool}{n:Nat}(h: ∀j,j<n→q j=q' j):bH q n=bH q' n:=by
 cases aa:bH q' n with
 |none=>exact tY fun j af=>by rw[h j af];exact me aa j af
 |some i=>
  obtain⟨a,b,c⟩:=gp aa;exact wa a (by rw[h i a];exact b) fun j af=>by rw[h j (by omega)];exact c j af
theorem ZH{R:Type}{p:Nat→Bool}{f:Nat→R}{b:Nat→Unit→Step R Unit}(ad: ∀i c,b i c=bif p i then .ret (f i)else .bh ()):
 ∀(n k:Nat),bm b k n ()=match(List.range' k n).find? p with|some i=>.inl (f i)|none=>.inr ():=by
 intro n
 induction n with
 |zero=>intro k;rfl
 |succ n aZ=>
  intro k;unfold bm;rw[ad,List.range'_succ,List.find?_cons]
  cases p k with
  |true=>rfl
  |false=>exact aZ (k+1)
theorem fj{R Q:Type}{p:Nat→Bool}{F:Nat→R}{b:Nat→Unit→Step R Unit}{f:R→Q}{g:Unit→Q}{n:Nat}(ad: ∀i u,b i u=bif p i then .ret (F i)else .bh ()):
 Sum.elim f g (bm b 0 n ())=match bH p n with|some i=>f (F i)|none=>g ():=by
 rw[ZH ad,←List.range_eq_range']
 show Sum.elim f g (match bH p n with|some i=>.inl (F i)|none=>.inr ())=_
 cases bH p n<;>rfl
theorem QY{R A:Type}{b b':Nat→A→Step R A}: ∀(n k:Nat) (a:A),(∀i a,k≤i→i<k+n→b i a=b' i a)→bm b k n a=bm b' k n a
 |0,_,_,_=>rfl
 |n+1,k,a,h=>by
  unfold bm;rw[h k a (Nat.le_refl _) (by omega)]
  cases b' k a with
  |ret r=>rfl
  |cz bg=>rfl
  |bh bg=>exact QY n (k+1) bg fun i a aa ae=>h i a (by omega) (by omega)
theorem el{R Q A:Type}{f:R→Q}{g g':A→Q}{b b':Nat→A→Step R A}{n:Nat}{a:A}(ad: ∀i a,i<n→b i a=b' i a)(ah: ∀a,g a=g' a):Sum.elim f g (bm b 0 n a)=Sum.elim f g' (bm b' 0 n a):=by
 rw[QY n 0 a fun i a _ h=>ad i a (by omega),show g=g' from funext ah]
theorem hZ(a b:ByteArray):cf .eql a b=decide (a=b):=tX a b
theorem CT(a b:ByteArray):cf .neq a b= !decide (a=b):=by
 show(!et a b)=_
 rw[tX]
theorem QZ{q:Nat→Bool}{n i:Nat}(hi:i<n)(aK:q i=true):decide ((match bH q n with|some j=>(j:Int)|none=> -1)<(i:Int))=(bH q i).isSome:=by
 cases h:bH q n with
 |none=>rw[me h i hi]at aK;cases aK
 |some j=>
  obtain⟨aa,ae,au⟩:=gp h
  by_cases af:j<i
  ·rw[wa af ae au]
   exact decide_eq_true (by show(j:Int)<(i:Int);omega)
  ·rw[tY fun k aj=>au k (by omega)]
   exact decide_eq_false (by show ¬(j:Int)<(i:Int);omega)
theorem CU(l:List ByteArray)(x:ByteArray):lF l x=match bH (fun i=>decide (x=l.getD i (aw .str))) l.length with|some i=>(i:Int)|none=> -1:=by
 unfold lF
 dsimp only
 rw[toNat_cast,fj (p:=fun i=>decide (x=l.getD i (aw .str))) (F:=fun i=>(i:Int)) (fun i u=>by simp only[hZ,toNat_cast])]
theorem Hw(l:List ByteArray)(x:ByteArray):q6 l x=lF l x:=by
 rw[CU]
 unfold q6
 dsimp only
 rw[toNat_cast,fj (p:=fun i=>decide (l.getD i (aw .str)=x)) (F:=fun i=>(i:Int)) (fun i u=>by simp only[hZ,toNat_cast]),ui (q':=fun i=>decide (x=l.getD i (aw .str))) fun j _=>decide_eq_decide.2 eq_comm]
theorem ZI(l:List ByteArray)(x:ByteArray):uj l x=(bH (fun i=>decide (x=l.getD i (aw .str))) l.length).isSome:=by
 unfold uj
 dsimp only
 rw[toNat_cast,fj (p:=fun i=>decide (x=l.getD i (aw .str))) (F:=fun _=>true) (fun i u=>by simp only[hZ,toNat_cast];rw[show(decide (l.getD i (aw .str)=x))=decide (x=l.getD i (aw .str))from decide_eq_decide.2 eq_comm])]
 all_goals cases bH (fun i=>decide (x=l.getD i (aw .str))) l.length<;>rfl
theorem Hy(l:List ByteArray)(x:ByteArray):hM l x=(bH (fun i=>decide (x=l.getD i (aw .str))) l.length).isSome:=by
 unfold hM
 rw[CU]
 cases bH (fun i=>decide (x=l.getD i (aw .str))) l.length with
 |none=>rfl
 |some i=>exact decide_eq_true (by show(i:Int)≥0;omega)
theorem getD_take{α:Type}{l:List α}{i j:Nat}{d:α}(h:j<i):(l.take i).getD j d=l.getD j d:=by
 rw[List.getD_eq_getElem?_getD,List.getD_eq_getElem?_getD,List.getElem?_take,if_pos h]
theorem pZ{α:Type}(l:List α)(i:Nat):ih l none (some (i:Int))=l.take i:=rfl
theorem ZJ{l:List ByteArray}{i:Nat}(hi:i<l.length):decide (p0 l (l.getD i (aw .str))<(i:Int))=uj (ih l none (some (i:Int))) (l.getD i (aw .str)):=by
 unfold p0
 rw[CU,ZI,pZ,List.length_take,Nat.min_eq_left (by omega),QZ hi (decide_eq_true rfl)]
 rw[ui (q':=fun j=>decide (l.getD i (aw .str)=(l.take i).getD j (aw .str))) fun j af=>by rw[getD_take af]]
theorem ZK(l:List ByteArray):(bif((decide ((List.length l:Int)<1))||(decide ((List.length l:Int)>64)))then 3 else
    Sum.elim (fun r=>r) (fun _=>0) (bm (fun(i13:Nat) (_:Unit)=>bif(!(iB (List.getD l (Int.toNat (i13:Int)) (aw .str))))then(.ret 10:Step Int Unit)else
      bif(uj (ih l none (some (i13:Int))) (List.getD l (Int.toNat (i13:Int)) (aw .str)))then .ret 9 else .bh ()) 0 (Int.toNat (List.length l:Int)) ():Int⊕Unit))=wJ l:=by
  unfold wJ;dsimp only;refine congrArg (cond _ 3) ?_
  rw[toNat_cast];refine el (fun i _ hi=>?_) fun _=>rfl
  simp only[toNat_cast,q5,sz];rw[ZJ hi]
theorem Hz(a:Attr):p1 a=kY a:=by
 unfold p1 kY sw
 rw[q5,sz]
 dsimp only
 rw[ZK]
 have aj:(a.kind != 3)= !(a.kind==3):=rfl
 rw[aj]
 have ad:((!(decide (a.min≥ -1099511627776)&&decide (a.min≤1099511627776))|| !(decide (a.max≥ -1099511627776)&&decide (a.max≤1099511627776)))||decide (a.min>a.max))=((decide (a.min< -1099511627776)||decide (a.max>1099511627776))||decide (a.min>a.max)):=by
  rw[Bool.eq_iff_iff];simp only[Bool.or_eq_true,Bool.not_eq_true',Bool.and_eq_false_iff,decide_eq_false_iff_not,decide_eq_true_eq];omega
 rw[←ad]
 cases a.kind==3<;>cases a.kind==2<;>cases (decide (a.min≥ -1099511627776)&&decide (a.min≤1099511627776))<;>rfl
end Go.aN
namespace Go.aN
open Go Go.eg
theorem ZL(v:Int):(CV v != v)=((decide (v<(-1099511627776)))||(decide (v>1099511627776))):=by
 have e:CV v=if(1099511627776:Int)<(if(-1099511627776:Int)>v then(-1099511627776:Int)else v)then(1099511627776:Int)else(if(-1099511627776:Int)>v then(-1099511627776:Int)else v):=rfl
 rw[e,Bool.eq_iff_iff]
 simp only[bne_iff_ne,Bool.or_eq_true,decide_eq_true_eq]
 split<;>split<;>omega
theorem HA(a:Attr)(v:c6):wK a v=wL a v:=by
 unfold wK wL
 rw[Hz,Y8]
 dsimp only
 generalize (v.kind==2&&(decide (v.n<a.min)||decide (v.n>a.max)))=A
 cases A<;>rfl
theorem Q0(x y:List ByteArray):zv x y=zw x y:=rfl
theorem HB(x y:List ByteArray):zw x y=decide (x=y):=by
 unfold zw
 dsimp only
 by_cases h:(x.length:Int)=(y.length:Int)
 ·rw[show((x.length:Int) != (y.length:Int))=false by simpa using h,cond_false,toNat_cast,fj (p:=fun i=>!decide (x.getD i (aw .str)=y.getD i (aw .str))) (F:=fun _=>false) (fun i u=>by simp only[CT,toNat_cast])]
  cases hf:bH (fun i=>!decide (x.getD i (aw .str)=y.getD i (aw .str))) x.length with
  |none=>
   have hf:=me hf
   refine(decide_eq_true ?_).symm
   refine List.ext_getElem (by omega) fun i aa ae=>?_
   have:=hf i aa
   simpa[List.getD_eq_getElem?_getD,List.getElem?_eq_getElem aa,List.getElem?_eq_getElem ae]using this
  |some i=>
   obtain⟨_,ae,_⟩:=gp hf;refine(decide_eq_false fun e=>?_).symm
   subst e;simp at ae
 ·rw[show((x.length:Int) != (y.length:Int))=true by simpa using h,cond_true]
  exact(decide_eq_false fun e=>h (by rw[e])).symm
theorem ZM(x y:Attr):CW x y=((y.kind==x.kind)&&zv y.enum x.enum):=by
 unfold CW
 rw[Q0,HB,HB]
 have aa:(x.kind==y.kind)=(y.kind==x.kind):=by rw[Bool.eq_iff_iff];simp only[beq_iff_eq];exact eq_comm
 have ae:decide (x.enum=y.enum)=decide (y.enum=x.enum):=decide_eq_decide.2 eq_comm
 dsimp only
 rw[aa,ae]
 cases y.kind==x.kind<;>rfl
theorem ZN(x:cX)(a b:Attr):CX x a b=CY x a b:=by
 unfold CX CY
 rw[ZM]
 simp only[HA]
 cases b.kind==a.kind<;>cases x.kind==1<;>rfl
theorem ZO(a:Attr):zx a ⟨⟨#[]⟩,0,0,0,[],false,false⟩=uk a:=by
 unfold zx uk
 dsimp only
 rw[Q0,HB]
 have h:decide (a.enum=[])=((a.enum.length:Int)==0):=by
  rw[Bool.eq_iff_iff];simp
 rw[h]
 generalize (((cf .eql a.name ⟨#[]⟩&&a.kind==0)&&a.min==0)&&a.max==0)=A
 cases A<;>cases ((a.enum.length:Int)==0)<;>cases a.fG<;>cases a.safety<;>rfl
theorem HC(c:aO)(x:ByteArray):oO c x=match bH (fun i=>decide ((c.attrs.getD i (aw .Attr)).name=x)) c.attrs.length with|some i=>(i:Int)|none=> -1:=by
 unfold oO
 dsimp only
 rw[toNat_cast,fj (p:=fun i=>decide ((c.attrs.getD i (aw .Attr)).name=x)) (F:=fun i=>(i:Int)) (fun i u=>by simp only[hZ,toNat_cast])]
 all_goals cases bH (fun i=>decide ((c.attrs.getD i (aw .Attr)).name=x)) c.attrs.length<;>rfl
theorem Q1(c:aO)(x:ByteArray):sB c x=match bH (fun i=>decide ((c.attrs.getD i (aw .Attr)).name=x)) c.attrs.length with|some i=>(c.attrs.getD i (aw .Attr),true)|none=>(⟨⟨#[]⟩,0,0,0,[],false,false⟩,false):=by
 unfold sB
 dsimp only
 rw[toNat_cast,fj (p:=fun i=>decide ((c.attrs.getD i (aw .Attr)).name=x)) (F:=fun i=>(c.attrs.getD i (aw .Attr),true)) (fun i u=>by simp only[hZ,toNat_cast]<;>rfl)]
 all_goals cases bH (fun i=>decide ((c.attrs.getD i (aw .Attr)).name=x)) c.attrs.length<;>rfl
theorem Q2(c:aO)(x:ByteArray):um c x=sB c x:=by
 unfold um
 rw[HC,Q1]
 cases bH (fun i=>decide ((c.attrs.getD i (aw .Attr)).name=x)) c.attrs.length with
 |none=>rfl
 |some i=>
  dsimp only;rw[decide_eq_false (show ¬(i:Int)<0 by omega),cond_false,toNat_cast]
theorem ZP(c:aO)(a:Attr)(x:cX):zy c a x=p2 c a x:=by
 unfold zy p2
 simp only[Q2,ZN,←ZL]
 cases x.kind==3<;>rfl
theorem ZQ(c:aO){k:Nat}(aj:k<c.commands.length):zz c (k:Int)=q7 c (k:Int):=by
 unfold zz q7
 simp only[q5,sz,ZP,Hz,ZO,toNat_cast,pZ,List.length_take,Nat.min_eq_left (Nat.le_of_lt aj)]
 refine congrArg (cond _ 10) ?_
 refine el (fun i _ hi=>?_) fun _=>rfl
 rw[getD_take hi]
theorem Q3(c:aO):zA c=oP c:=by
 unfold zA oP
 dsimp only
 generalize (((decide ((List.length c.attrs:Int)>12))||(decide ((List.length c.commands:Int)>12)))||(decide ((List.length c.events:Int)>12)))=A
 rw[toNat_cast,fj (p:=fun i=>decide ((List.length ((List.getD c.commands i (aw .Command)).gq):Int)>12)) (F:=fun _=>true) (fun i u=>by simp only[toNat_cast]),fj (p:=fun i=>decide ((List.length ((List.getD c.commands i (aw .Command)).gq):Int)>12)) (F:=fun _=>true) (fun i u=>by simp only[toNat_cast])]
 all_goals cases A<;>cases bH (fun i=>decide ((List.length ((List.getD c.commands i (aw .Command)).gq):Int)>12)) c.commands.length<;>rfl
theorem ZR{c:aO}{i:Nat}(hi:i<c.attrs.length):decide (oO c ((c.attrs.getD i (aw .Attr)).name)<(i:Int))=(bH (fun j=>decide ((c.attrs.getD j (aw .Attr)).name=(c.attrs.getD i (aw .Attr)).name)) i).isSome:=by
 rw[HC]
 exact QZ hi (decide_eq_true rfl)
theorem HD{α R Q:Type}(nm:α→ByteArray)(l:List α)(n:Nat)(d:α)(x:ByteArray)(r:R)(f:R→Q)(g:Unit→Q):
 Sum.elim f g (bm (fun(j:Nat) (_:Unit)=>bif cf .eql (nm (l.getD j d)) x then .ret r else .bh ()) 0 n ())=bif(bH (fun j=>decide (nm (l.getD j d)=x)) n).isSome then f r else g ():=by
 rw[fj (p:=fun j=>decide (nm (l.getD j d)=x)) (F:=fun _=>r) (fun i u=>by simp only[hZ])]
 cases bH (fun j=>decide (nm (l.getD j d)=x)) n<;>rfl
theorem CZ{α R Q:Type}(nm:α→ByteArray)(l:List α)(n:Nat)(d:α)(x:ByteArray)(r:R)(f:R→Q)(g:Unit→Q):
 Sum.elim f g (bm (fun(j:Nat) (_:Unit)=>bif cf .eql (nm ((l.take n).getD j d)) x then .ret r else .bh ()) 0 n ())=bif(bH (fun j=>decide (nm (l.getD j d)=x)) n).isSome then f r else g ():=by
 rw[HD nm (l.take n),ui (q':=fun j=>decide (nm (l.getD j d)=x)) fun j af=>by rw[getD_take af]]
theorem ZS(c:aO):zB c=p3 c:=by
 unfold zB p3
 simp only[q5,sz,Q3,Hz,toNat_cast]
 refine congrArg (cond _ 10) (congrArg (cond _ 3) ?_)
 refine el (fun i _ hi=>?_) fun _=>el (fun i _ hi=>?_) fun _=>el (fun i _ hi=>?_) fun _=>rfl
 ·refine congrArg (cond _ _) ?_
  rw[ZR hi,pZ,List.length_take,Nat.min_eq_left (Nat.le_of_lt hi),CZ (fun a:Attr=>a.name)]
 ·rw[ZQ c hi]
 ·refine congrArg (cond _ _) ?_
  rw[HD (fun s:ByteArray=>s),Hy,pZ,List.length_take,Nat.min_eq_left (Nat.le_of_lt hi)];rw[ui (q':=fun j=>decide (c.events.getD i (aw .str)=(c.events.take i).getD j (aw .str))) fun j af=>by rw[getD_take af];exact decide_eq_decide.2 eq_comm]
theorem Q4(l:List aO):zC l=nQ l:=by
 unfold zC nQ
 simp only[ZS,toNat_cast]
 refine congrArg (cond _ 3) ?_
 refine el (fun i _ hi=>?_) fun _=>rfl
 refine congrArg (cond _ _) ?_
 rw[HD (fun a:aO=>a.name),pZ,List.length_take,Nat.min_eq_left (Nat.le_of_lt hi),CZ (fun a:aO=>a.name)]
end Go.aN
