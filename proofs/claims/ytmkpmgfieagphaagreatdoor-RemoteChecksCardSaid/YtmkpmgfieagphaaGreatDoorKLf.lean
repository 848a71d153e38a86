/- Numbers, texts, values, readers: the spec functions. Conditions: none. -/
import Derived.Test.YtmkpmgfieagphaaGreatDoorKTEk
import Derived.Laws.RangeString
import Derived.Laws.RangeAny
import Derived.Laws.BitsAllLaws
import Derived.Laws.DeepNot64
import Derived.Test.YtmkpmgfieagphaaGreatDoorKPm
namespace Go.aK
open Go Go.aK Go.eK
abbrev dJ:=cn
def qX(s:ByteArray)(kQ:Nat)(qY:Int):Step (Int × Int × Int) (Int):=
 match qY with
 |(qZ)=>(match(s.data.toList)[kQ]? with|some mM=>(bif((decide ((kQ:Int)>0)&&((mM.toNat:Int)==0))||(((kQ:Int)==9)&&decide ((mM.toNat:Int)>1)))then .ret (0,0,4)else(bif decide ((mM.toNat:Int)<128)then .ret (kR .u64 qZ (IntKind.u64.wrap ((IntKind.u64.wrap (lz .u8 (mM.toNat:Int) 127))*2^(min (IntKind.i64.wrap (7*(kQ:Int))).toNat 64))),((kQ+1:Nat):Int),0)else .bq (kR .u64 qZ (IntKind.u64.wrap ((IntKind.u64.wrap (lz .u8 (mM.toNat:Int) 127))*2^(min (IntKind.i64.wrap (7*(kQ:Int))).toNat 64))))))|none=>.bq qY)
def yy(s:ByteArray)(qY:Int):(Int × Int × Int)⊕(Int):=bn (qX s) 0 s.size qY
def jV(s:ByteArray):Int × Int × Int:=
 (match(yy s (0))with| .inl F3=>F3| .inr (qZ)=>(0,0,5))
def kp(r:Rd):(Int):=
 (bif !r.made then 15 else r.err)
def dm(r:Rd):(Int × Rd):=
 (bif((kp r) != 0)then(0,r)else(bif((((jV r.rest).2).2) != 0)then(0,(⟨r.rest,(((jV r.rest).2).2),r.made⟩:Rd))else(jD .i64 (IntKind.i64.wrap (((jV r.rest).1).fdiv 2)) (IntKind.i64.wrap (0-IntKind.i64.wrap (lz .u64 ((jV r.rest).1) 1))),(⟨r.rest.extract ((((jV r.rest).2).1).toNat) r.rest.size,r.err,r.made⟩:Rd))))
def gZ(r:Rd)(n:Int):(Int × Rd):=
 (bif((kp ((dm r).2)) != 0)then(0,((dm r).2))else(bif decide ((dm r).1<0)then(0,(⟨((dm r).2).rest,4,((dm r).2).made⟩:Rd))else(bif decide ((dm r).1>(if 0>n then 0 else n))then(0,(⟨((dm r).2).rest,3,((dm r).2).made⟩:Rd))else((dm r).1,((dm r).2)))))
def kq(r:Rd)(n:Int):(ByteArray × Rd):=
 (bif((kp ((gZ r n).2)) != 0)then(⟨#[]⟩,((gZ r n).2))else(bif decide ((gZ r n).1>(((((gZ r n).2).rest).size:Nat):Int))then(⟨#[]⟩,(⟨((gZ r n).2).rest,5,((gZ r n).2).made⟩:Rd))else((((gZ r n).2).rest).extract 0 (((gZ r n).1).toNat),(⟨(((gZ r n).2).rest).extract (((gZ r n).1).toNat) (((gZ r n).2).rest).size,((gZ r n).2).err,((gZ r n).2).made⟩:Rd))))
def sq(r:Rd)(e:Int):(Rd):=
 (bif((kp r)==0)then(⟨r.rest,e,r.made⟩:Rd)else r)
def F4(r:Rd):(Int):=
 (bif((kp r) != 0)then 0 else(r.rest.size:Int))
def pN(r:Rd):(Int):=
 (bif decide ((F4 r)>0)then 23 else(kp r))
def yz(n:Int):Bool:=
 (decide (n≥ -1099511627776)&&decide (n≤1099511627776))
def ny(v:cd):Int:=
 (bif(((v.kind==0)||(v.kind==4))||((v.kind==1)||((v.kind==2)||(v.kind==3))))then(bif !(bif((v.kind==0)||(v.kind==4))then(v.n==0)else(bif(v.kind==1)then((v.n==0)||(v.n==1))else(bif(v.kind==2)then yz v.n else(decide (v.n≥0)&&decide (v.n≤63)))))then 2 else(bif decide ((v.s.size:Int)>60)then 3 else(bif(!dE v.s (⟨#[]⟩)&&(v.kind != 4))then 4 else 0)))else 7)
def sr(v:cd):Int:=
 (bif(((v.kind==0)||(v.kind==4))||((v.kind==1)||((v.kind==2)||(v.kind==3))))then(bif(decide (v.n<(bif(((v.kind==0)||(v.kind==4))||((v.kind==1)|| !(v.kind==2)))then 0 else -1099511627776))||decide (v.n>(bif((v.kind==0)||(v.kind==4))then 0 else(bif(v.kind==1)then 1 else(bif(v.kind==2)then 1099511627776 else 63)))))then 2 else(bif decide ((v.s.size:Int)>60)then 3 else(bif(!dE v.s (⟨#[]⟩)&&(v.kind != 4))then 4 else 0)))else 7)
def yA(r:Rd):cd:=(bif(((dm r).1==1)||(((dm r).1==2)||((dm r).1==3)))then(⟨(dm r).1,(dm ((dm r).2)).1,⟨#[]⟩⟩:cd)else(bif((dm r).1==4)then(⟨(dm r).1,0,(kq ((dm r).2) 60).1⟩:cd)else(⟨(dm r).1,0,⟨#[]⟩⟩:cd)))
def tW(r:Rd):Rd:=(bif(((dm r).1==1)||(((dm r).1==2)||((dm r).1==3)))then((dm ((dm r).2)).2)else(bif((dm r).1==4)then((kq ((dm r).2) 60).2)else((dm r).2)))
def ss(r:Rd):Rd:=(bif(ny (yA r) != 0)then(sq (tW r) 4)else(tW r))
def su(r:Rd):(cd × Rd):=
 (bif((kp (ss r)) != 0)then((⟨0,0,⟨#[]⟩⟩:cd),(ss r))else((yA r),(ss r)))
def gm(r:dJ):(Int):=
 (bif !r.made then 15 else r.bad)
def nz(r:dJ)(kQ:Nat)(qY:Int):Step (Int × dJ) (Int):=
 match qY with
 |(qZ)=>(bif decide (IntKind.i64.wrap (r.at_+(kQ:Int))≥(r.s.size:Int))then .ret (0,(⟨r.s,r.at_,5,r.made⟩:dJ))else(match(r.s.data.toList)[(IntKind.i64.wrap (r.at_+(kQ:Int))).toNat]? with|some mM=>(bif((decide ((kQ:Int)>0)&&((mM.toNat:Int)==0))||(((kQ:Int)==9)&&decide ((mM.toNat:Int)>1)))then .ret (0,(⟨r.s,r.at_,4,r.made⟩:dJ))else(bif decide ((mM.toNat:Int)<128)then .ret ((bif((kR .u64 qZ (IntKind.u64.wrap ((IntKind.u64.wrap ((mM.toNat:Int).tmod 128))*2^(min (IntKind.i64.wrap (7*(kQ:Int))).toNat 64)))).tmod 2==1)then IntKind.i64.wrap (-1-IntKind.i64.wrap ((kR .u64 qZ (IntKind.u64.wrap ((IntKind.u64.wrap ((mM.toNat:Int).tmod 128))*2^(min (IntKind.i64.wrap (7*(kQ:Int))).toNat 64)))).fdiv 2))else IntKind.i64.wrap ((kR .u64 qZ (IntKind.u64.wrap ((IntKind.u64.wrap ((mM.toNat:Int).tmod 128))*2^(min (IntKind.i64.wrap (7*(kQ:Int))).toNat 64)))).fdiv 2)),(⟨r.s,IntKind.i64.wrap (IntKind.i64.wrap (r.at_+(kQ:Int))+1),r.bad,r.made⟩:dJ))else .bq (kR .u64 qZ (IntKind.u64.wrap ((IntKind.u64.wrap ((mM.toNat:Int).tmod 128))*2^(min (IntKind.i64.wrap (7*(kQ:Int))).toNat 64))))))|none=>.bq qY))
def F5(r:dJ)(qY:Int):(Int × dJ)⊕(Int):=bn (nz r) 0 10 qY
def dt(r:dJ):(Int × dJ):=
 (bif((gm r) != 0)then(0,r)else(match(F5 r (0))with| .inl F3=>F3| .inr (qZ)=>(0,r)))
def dv(r:dJ)(n:Int):(Int × dJ):=
 (bif((gm ((dt r).2)) != 0)then(0,((dt r).2))else(bif decide ((dt r).1<0)then(0,(⟨((dt r).2).s,((dt r).2).at_,4,((dt r).2).made⟩:dJ))else(bif decide ((dt r).1>(bif decide (n<0)then 0 else n))then(0,(⟨((dt r).2).s,((dt r).2).at_,3,((dt r).2).made⟩:dJ))else((dt r).1,((dt r).2)))))
def lA(r:dJ)(n:Int):(ByteArray × dJ):=
 (bif((gm ((dv r n).2)) != 0)then(⟨#[]⟩,((dv r n).2))else(bif decide ((dv r n).1>IntKind.i64.wrap ((((((dv r n).2).s).size:Nat):Int)-((dv r n).2).at_))then(⟨#[]⟩,(⟨((dv r n).2).s,((dv r n).2).at_,5,((dv r n).2).made⟩:dJ))else((((dv r n).2).s).extract ((((dv r n).2).at_).toNat) ((((dv r n).2).at_+(dv r n).1).toNat),(⟨((dv r n).2).s,IntKind.i64.wrap (((dv r n).2).at_+(dv r n).1),((dv r n).2).bad,((dv r n).2).made⟩:dJ))))
def mN(r:dJ):cd:=(bif((dt r).1==4)then(⟨(dt r).1,0,(lA ((dt r).2) 60).1⟩:cd)else(⟨(dt r).1,0,⟨#[]⟩⟩:cd))
def tX(r:dJ):dJ:=(bif((dt r).1==4)then((lA ((dt r).2) 60).2)else((dt r).2))
def pO(r:dJ):dJ:=(bif(decide ((mN r).kind≥1)&&decide ((mN r).kind≤3))then((dt (tX r)).2)else(tX r))
def tY(r:dJ):cd:=(bif(decide ((mN r).kind≥1)&&decide ((mN r).kind≤3))then(⟨(mN r).kind,(dt (tX r)).1,(mN r).s⟩:cd)else(mN r))
def yB(r:dJ)(e:Int):(dJ):=
 (bif((gm r)==0)then(⟨r.s,r.at_,e,r.made⟩:dJ)else r)
def tZ(r:dJ):dJ:=(bif(((gm (pO r))==0)&&(sr (tY r) != 0))then(yB (pO r) 4)else(pO r))
def vT(r:dJ):(cd × dJ):=
 (bif((gm (tZ r)) != 0)then((⟨0,0,⟨#[]⟩⟩:cd),(tZ r))else((tY r),(tZ r)))
def BN(r:dJ):(Int):=
 (bif((gm r) != 0)then(gm r)else(bif decide (r.at_<(r.s.size:Int))then 23 else 0))
def OR(s:ByteArray):Rd:=(⟨s,0,true⟩:Rd)
def OS(s:ByteArray):dJ:=(⟨s,0,0,true⟩:dJ)
def jE(r:dJ):Prop:=0≤r.at_∧r.at_≤(r.s.size:Int)∧r.s.size≤4611686018427387904
open Classical in
theorem OT{a:Int}(h:(a != 0)=false):a=0:=by simpa using h
theorem XC{α:Type}{l:List α}{k:Nat}{x:α}:x∈l.take k↔∃i,i<k∧l[i]? =some x:=by
 rw[List.mem_iff_getElem?]
 constructor
 ·rintro⟨i,hi⟩
  rw[List.getElem?_take]at hi
  split at hi
  ·rename_i h;exact⟨i,h,hi⟩
  ·cases hi
 ·rintro⟨i,h,hi⟩
  exact⟨i,by rw[List.getElem?_take,if_pos h];exact hi⟩
theorem XD{α:Type}{p q:Prop}[Decidable p][Decidable q]{a b:α}(h:p↔q):(if p then a else b)=if q then a else b:=by
 by_cases ak:p
 ·rw[if_pos ak,if_pos (h.1 ak)]
 ·rw[if_neg ak,if_neg fun aH=>ak (h.2 aH)]
theorem OU{α:Type}{p q:Prop}[Decidable p][Decidable q]{a b:α}(h:p↔¬q):(if p then a else b)=if q then b else a:=by
 by_cases aH:q
 ·rw[if_pos aH,if_neg fun ak=>h.1 ak aH]
 ·rw[if_neg aH,if_pos (h.2 aH)]
theorem OV(v:cd):ny v=sr v:=by
 unfold ny sr yz
 simp only[cond_eq_ite]
 by_cases aL:v.kind=0
 ·simp[aL]
  apply OU;omega
 by_cases aP:v.kind=4
 ·simp[aP]
  apply OU;omega
 by_cases aa:v.kind=1
 ·simp[aa]
  apply XD;omega
 by_cases ae:v.kind=2
 ·simp[ae]
 by_cases au:v.kind=3
 ·simp[au]
 ·simp[aL,aa,ae,au,aP]
end Go.aK
namespace Go.aK
open Go Go.aK Go.eK
def kS:Nat→Nat→List Nat
 |0,u=>[u]
 |f+1,u=>if u<128 then[u]else(u%128+128)::kS f (u/ 128)
def ha(n:Int):Nat:=if 0≤n then(2*n).toNat else(-2*n-1).toNat
def yC(u:Nat):Int:=if u%2=0 then((u/ 2:Nat):Int)else -1-((u/ 2:Nat):Int)
def hG(n:Int):Prop:= -9223372036854775808≤n∧n<9223372036854775808
theorem q0{n:Int}(h:hG n):ha n<18446744073709551616:=by
 unfold hG at h
 unfold ha
 split<;>omega
theorem pP(n:Int):IntKind.u64.wrap n=n%18446744073709551616:=by simp[IntKind.wrap,IntKind.bits,IntKind.signed]
theorem F6(a b:Nat)(aZ:a<18446744073709551616)(ad:b<18446744073709551616):jD .u64 (a:Int) (b:Int)=((a ^^^ b:Nat):Int):=u64_xor_nat a b aZ ad
theorem XE(a b:Nat)(aZ:a<18446744073709551616)(ad:b<18446744073709551616):kR .u64 (a:Int) (b:Int)=((a ||| b:Nat):Int):=u64_or_nat a b aZ ad
theorem XF(a b:Nat)(aZ:a<18446744073709551616)(ad:b<18446744073709551616):lz .u64 (a:Int) (b:Int)=((a &&& b:Nat):Int):=u64_and_nat a b aZ ad
theorem XG(a b:Nat)(aZ:a<256)(ad:b<256):kR .u8 (a:Int) (b:Int)=((a ||| b:Nat):Int):=u8_or_nat a b aZ ad
theorem OW(a b:Nat)(aZ:a<256)(ad:b<256):lz .u8 (a:Int) (b:Int)=((a &&& b:Nat):Int):=u8_and_nat a b aZ ad
theorem OX(a:Nat)(aZ:a<18446744073709551616):a ^^^ 18446744073709551615=18446744073709551615-a:=by
 have h:(BitVec.ofNat 64 a ^^^ BitVec.allOnes 64)= ~~~(BitVec.ofNat 64 a):=by rw[BitVec.xor_allOnes]
 have ae:=congrArg BitVec.toNat h
 rw[BitVec.toNat_not,BitVec.toNat_xor,BitVec.toNat_ofNat,BitVec.toNat_allOnes,Nat.mod_eq_of_lt aZ]at ae
 exact ae
theorem XH{n:Int}(h:hG n):jD .u64 (IntKind.u64.wrap (IntKind.u64.wrap n*2)) (IntKind.u64.wrap (n.fdiv 9223372036854775808))=((ha n:Nat):Int):=by
 obtain⟨aa,ae⟩:=h
 rw[pP,pP,pP,Int.fdiv_eq_ediv_of_nonneg _ (by decide)]
 by_cases hn:0≤n
 ·have aB:n%18446744073709551616*2%18446744073709551616=((ha n:Nat):Int):=by unfold ha;rw[if_pos hn];omega
  have bd:n/ 9223372036854775808%18446744073709551616=((0:Nat):Int):=by omega
  rw[aB,bd,F6 _ _ (q0 ⟨aa,ae⟩) (by decide),Nat.xor_zero]
 ·have aB:n%18446744073709551616*2%18446744073709551616=((18446744073709551615-ha n:Nat):Int):=by unfold ha;rw[if_neg hn];omega
  have bd:n/ 9223372036854775808%18446744073709551616=((18446744073709551615:Nat):Int):=by omega
  have aR:=q0 ⟨aa,ae⟩
  rw[aB,bd,F6 _ _ (by omega) (by decide),OX _ (by omega)]
  omega
theorem OY{n:Int}(h:hG n):(bif decide (n<0)then jD .u64 18446744073709551615 (IntKind.u64.wrap (IntKind.u64.wrap n*2))else IntKind.u64.wrap (IntKind.u64.wrap n*2))=((ha n:Nat):Int):=by
 obtain⟨aa,ae⟩:=h
 rw[pP,pP]
 by_cases hn:0≤n
 ·have iX:decide (n<0)=false:=decide_eq_false (by omega)
  rw[iX];show n%18446744073709551616*2%18446744073709551616=((ha n:Nat):Int);unfold ha;rw[if_pos hn];omega
 ·have iX:decide (n<0)=true:=decide_eq_true (by omega)
  have aB:n%18446744073709551616*2%18446744073709551616=((18446744073709551615-ha n:Nat):Int):=by unfold ha;rw[if_neg hn];omega
  have aR:=q0 ⟨aa,ae⟩
  rw[iX,cond_true,aB,show(18446744073709551615:Int)=((18446744073709551615:Nat):Int)from rfl,F6 _ _ (by decide) (by omega),Nat.xor_comm,OX _ (by omega)]
  omega
theorem XI: ∀a,a<256→a ||| 128=a%128+128:=by decide+kernel
theorem XJ(u:Nat):kR .u8 (IntKind.u8.wrap (u:Int)) 128=((u%128+128:Nat):Int):=by
 have e:IntKind.u8.wrap (u:Int)=((u%256:Nat):Int):=by rw[IntKind.wrap_u8'];omega
 rw[e,show(128:Int)=((128:Nat):Int)from rfl,XG _ _ (by omega) (by decide),XI _ (by omega)]
 omega
theorem XK(u:Nat):IntKind.u8.wrap (IntKind.u8.wrap ((u:Int).tmod 128)+128)=((u%128+128:Nat):Int):=by
 rw[Int.tmod_eq_emod_of_nonneg (by omega),IntKind.wrap_u8',IntKind.wrap_u8']
 omega
theorem OZ{R A:Type}{b:A→Step R A}{f:Nat}{x y:A}(h:b x= .cN y):c4 b (f+1) x= .inr y:=by
 unfold c4
 rw[h]
theorem O0{R A:Type}{b:A→Step R A}{f:Nat}{x y:A}(h:b x= .bq y):c4 b (f+1) x=c4 b f y:=by
 conv=>lhs;unfold c4
 rw[h]
def kr(u:Nat):ByteArray:=bytesOf ((kS 9 u).map fun b:Nat=>(b:Int))
theorem O1: ∀(l:List Int) (s:ByteArray),(l.foldl (fun r n=>r.push (UInt8.ofNat n.toNat)) s).data.toList=s.data.toList++l.map fun n=>UInt8.ofNat n.toNat
 |[],s=>by simp
 |n::l,s=>by
  rw[List.foldl_cons,O1 l,ByteArray.data_push,Array.toList_push,List.map_cons,List.append_assoc,List.singleton_append]
theorem O2(l:List Int):(bytesOf l).data.toList=l.map fun n=>UInt8.ofNat n.toNat:=by
 unfold bytesOf
 rw[O1]
 rfl
theorem ua(l:List Int):(bytesOf l).size=l.length:=by
 have h:=congrArg List.length (O2 l)
 rw[List.length_map,Array.length_toList]at h
 exact h
theorem BO{a b:ByteArray}(h:a.data.toList=b.data.toList):a=b:=ByteArray.ext (Array.toList_inj.1 h)
def yD(l:List Nat):List UInt8:=l.map UInt8.ofNat
theorem XL(u:Nat):(kr u).data.toList=yD (kS 9 u):=by
 unfold kr yD
 rw[O2,List.map_map]
 rfl
theorem XM(f u:Nat):(kS f u).length≤f+1:=by
 induction f generalizing u with
 |zero=>exact Nat.le_refl _
 |succ f aX=>
  unfold kS
  split
  ·simp
  ·have:=aX (u/ 128)
   simp only[List.length_cons];omega
theorem O3(u:Nat):(kr u).size=(kS 9 u).length:=by
 unfold kr
 rw[ua,List.length_map]
theorem F7(k:Nat):128^k=2^(7*k):=by rw[Nat.pow_mul]
theorem O4{k acc c:Nat}(aj:k≤9)(hc:c<256)(aZ:acc<128^k)(hd:c%128*128^k<18446744073709551616):
 kR .u64 (acc:Int) (IntKind.u64.wrap ((IntKind.u64.wrap (lz .u8 (c:Int) 127))*2^(min (IntKind.i64.wrap (7*(k:Int))).toNat 64)))=((acc+c%128*128^k:Nat):Int):=by
 have aB:lz .u8 (c:Int) 127=((c%128:Nat):Int):=by
  rw[show(127:Int)=((127:Nat):Int)from rfl,OW _ _ hc (by decide),nat_mask7]
 have bd:min (IntKind.i64.wrap (7*(k:Int))).toNat 64=7*k:=by
  rw[gQ _ (by omega) (by omega)]
  omega
 have cj:IntKind.u64.wrap ((c%128:Nat):Int)=((c%128:Nat):Int):=by rw[pP];omega
 have eo:(((c%128:Nat):Int)*2^(7*k))=((c%128*128^k:Nat):Int):=by
  rw[F7];push_cast;rfl
 have ak:128^k≤128^9:=Nat.pow_le_pow_right (by decide) aj
 rw[aB,bd,cj,eo,pP]
 have kt:((c%128*128^k:Nat):Int)%18446744073709551616=((c%128*128^k:Nat):Int):=by omega
 rw[kt,XE _ _ (by(have:(128:Nat)^9=9223372036854775808:=(by decide));omega) hd]
 rw[Nat.or_comm,nat_join (7*k) _ _ (by rw[F7];exact Nat.mul_mod_left _ _) (by rw[←F7];exact aZ),Nat.add_comm]
theorem F8(e:UInt8):e.toNat<256:=e.toNat_lt
theorem O5{s:ByteArray}{k:Nat}{e:UInt8}{acc:Nat}(he:s.data.toList[k]? =some e)(aj:k≤9)(aZ:acc<128^k):qX s k (acc:Int)=
 if(0<k∧e.toNat=0)∨(k=9∧1<e.toNat)then .ret (0,0,4)else if e.toNat<128 then .ret (((acc+e.toNat%128*128^k:Nat):Int),((k+1:Nat):Int),0)else .bq ((acc+e.toNat%128*128^k:Nat):Int):=by
 have hu:=F8 e
 unfold qX
 dsimp only
 rw[he]
 dsimp only
 rw[cond_eq_ite]
 by_cases aa:(0<k∧e.toNat=0)∨(k=9∧1<e.toNat)
 ·rw[if_pos aa,if_pos]
  simp only[Bool.or_eq_true,Bool.and_eq_true,decide_eq_true_eq,beq_iff_eq];omega
 ·have hd:e.toNat%128*128^k<18446744073709551616:=by
   rcases Nat.lt_or_ge k 9 with gE|gE
   ·have ak:128^k≤128^8:=Nat.pow_le_pow_right (by decide) (by omega)
    have:e.toNat%128*128^k≤127*128^8:=Nat.mul_le_mul (by omega) ak
    exact Nat.lt_of_le_of_lt this (by decide)
   ·have yE:k=9:=by omega
    subst yE
    have:e.toNat%128*128^9≤1*128^9:=Nat.mul_le_mul (by omega) (Nat.le_refl _)
    exact Nat.lt_of_le_of_lt this (by decide)
  rw[if_neg aa,if_neg (by
   simp only[Bool.or_eq_true,Bool.and_eq_true,decide_eq_true_eq,beq_iff_eq]
   omega),O4 aj hu aZ hd,cond_eq_ite]
  by_cases ae:e.toNat<128
  ·rw[if_pos ae,if_pos (by rw[decide_eq_true_eq];omega)]
  ·rw[if_neg ae,if_neg (by rw[decide_eq_true_eq];omega)]
theorem O6{s:ByteArray}: ∀(m k acc:Nat) (U N:Int),k+m=s.size→acc<128^k→k≤9→bn (qX s) k m (acc:Int)= .inl (U,N,0)→
 ∃(u:Nat) (t:List UInt8),U=((acc+u*128^k:Nat):Int)∧s.data.toList.drop k=yD (kS (9-k) u)++t∧N=((k+(kS (9-k) u).length:Nat):Int)∧(0<k→0<u)∧acc+u*128^k<18446744073709551616
 |0,k,acc,U,N,_,_,_,h=>by simp[bn]at h
 |m+1,k,acc,U,N,ai,aZ,aj,h=>by
  have bG:k<s.data.toList.length:=by
   have:s.data.toList.length=s.size:=rfl
   omega
  obtain⟨e,he⟩: ∃e,s.data.toList[k]? =some e:=⟨_,List.getElem?_eq_getElem bG⟩
  have O7:s.data.toList.drop k=e::s.data.toList.drop (k+1):=by
   rw[List.drop_eq_getElem_cons bG]
   congr 1
   rw[List.getElem?_eq_getElem bG]at he
   exact Option.some.inj he
  have zjA:=F8 e
  have O8:128^(k+1)=128*128^k:=by rw[Nat.pow_succ,Nat.mul_comm]
  have zjB:128^k≤128^9:=Nat.pow_le_pow_right (by decide) aj
  have F9:(128:Nat)^9=9223372036854775808:=by decide
  unfold bn at h;rw[O5 he aj aZ]at h
  split at h
  ·rename_i r ag
   split at ag
   ·cases ag;cases h
   ·rename_i aH
    split at ag
    ·rename_i hc
     cases ag;simp only[Sum.inl.injEq,Prod.mk.injEq]at h;obtain⟨rfl,rfl,_⟩:=h
     have aw:kS (9-k) e.toNat=[e.toNat]:=by
      rcases Nat.lt_or_ge k 9 with gE|gE
      ·obtain⟨f,hf⟩: ∃f,9-k=f+1:=⟨8-k,by omega⟩
       rw[hf];unfold kS;rw[if_pos hc]
      ·rw[show 9-k=0 by omega];rfl
     have ub:acc+e.toNat*128^k<18446744073709551616:=by
      rcases Nat.lt_or_ge k 9 with gE|gE
      ·have ak:128^k≤128^8:=Nat.pow_le_pow_right (by decide) (by omega)
       have ae:e.toNat*128^k≤127*128^8:=Nat.mul_le_mul (by omega) ak
       have sv:127*(128:Nat)^8=9151314442816847872:=by decide
       omega
      ·have yE:k=9:=by omega
       subst yE
       have:e.toNat*128^9≤1*128^9:=Nat.mul_le_mul (by omega) (Nat.le_refl _)
       omega
     refine⟨e.toNat,s.data.toList.drop (k+1),by rw[Nat.mod_eq_of_lt hc],?_,by rw[aw];rfl,fun aL=>by omega,ub⟩
     rw[aw,O7];simp[yD]
    ·cases ag
  ·rename_i a ag
   split at ag
   ·cases ag
   ·split at ag<;>cases ag
  ·rename_i a ag
   split at ag
   ·cases ag
   ·rename_i aH
    split at ag
    ·cases ag
    ·rename_i hc
     cases ag
     have O9:k≤8:=by
      rcases Nat.lt_or_ge k 9 with gE|gE
      ·omega
      ·exact absurd (Or.inr ⟨by omega,by omega⟩) aH
     have yF:acc+e.toNat%128*128^k<128^(k+1):=by
      have:e.toNat%128*128^k≤127*128^k:=Nat.mul_le_mul (by omega) (Nat.le_refl _)
      omega
     obtain⟨u,t,aa,ae,au,aP,bE⟩:=O6 m (k+1) (acc+e.toNat%128*128^k) U N (by omega) yF (by omega) h
     have zjC:=aP (by omega)
     have yG:acc+e.toNat%128*128^k+u*128^(k+1)=acc+(e.toNat%128+u*128)*128^k:=by
      rw[O8,Nat.add_mul,Nat.add_assoc,Nat.mul_assoc]
     have aw:kS (9-k) (e.toNat%128+u*128)=e.toNat::kS (9-(k+1)) u:=by
      rw[show 9-k=(9-(k+1))+1 by omega]
      conv=>lhs;unfold kS
      rw[if_neg (by omega)]
      congr 1
      ·omega
      ·congr 1
       omega
     refine⟨e.toNat%128+u*128,t,by rw[aa,yG],?_,?_,fun _=>by omega,by rw[←yG];exact bE⟩
     ·rw[aw,O7,ae]
      simp[yD]
     ·rw[aw,au,List.length_cons]
      congr 1
      omega
theorem Pb{s:ByteArray}{U N:Int}(h:jV s=(U,N,0)): ∃(u:Nat) (t:ByteArray),U=(u:Int)∧s=kr u++t∧N=(((kr u).size:Nat):Int)∧u<18446744073709551616:=by
 unfold jV at h
 split at h
 ·rename_i r ag
  subst h;unfold yy at ag;obtain⟨u,t,aa,ae,au,_,bE⟩:=O6 s.size 0 0 U N (by omega) (by decide) (by decide) ag
  refine⟨u,⟨t.toArray⟩,by rw[aa];simp,BO ?_,by rw[au,O3];simp,by omega⟩
  rw[ByteArray.data_append,Array.toList_append,XL];simpa using ae
 ·simp at h
theorem XN(k:IntKind)(a b:Int):jD k a b=jD k b a:=by
 unfold jD
 rw[BitVec.xor_comm]
theorem XO(a:Nat)(h:a<9223372036854775808):jD .i64 (a:Int) 0=(a:Int):=by
 unfold jD
 have e:BitVec.ofInt IntKind.i64.bits (0:Int)=0#_:=rfl
 rw[e,BitVec.xor_zero]
 have:(BitVec.ofInt 64 (a:Int)).toNat=a:=ofInt_u64 a (by omega)
 show IntKind.i64.wrap (((BitVec.ofInt 64 (a:Int)).toNat:Nat):Int)=_
 rw[this,gQ _ (by omega) (by omega)]
theorem XP(a:Nat)(h:a<9223372036854775808):jD .i64 (a:Int) (-1)= -1-(a:Int):=by
 rw[XN]
 exact i64_not a h
theorem XQ{u:Nat}(h:u<18446744073709551616):jD .i64 (IntKind.i64.wrap ((u:Int).fdiv 2)) (IntKind.i64.wrap (0-IntKind.i64.wrap (lz .u64 (u:Int) 1)))=yC u:=by
 have aB:IntKind.i64.wrap ((u:Int).fdiv 2)=((u/ 2:Nat):Int):=by
  rw[Int.fdiv_eq_ediv_of_nonneg _ (by decide),gQ _ (by omega) (by omega)]
  omega
 have bd:lz .u64 (u:Int) 1=((u%2:Nat):Int):=by
  rw[show(1:Int)=((1:Nat):Int)from rfl,XF _ _ h (by decide),nat_mask1]
 rw[aB,bd]
 unfold yC
 split
 ·rename_i aL
  rw[aL];exact XO _ (by omega)
 ·rename_i aL
  rw[show u%2=1 by omega]
  exact XP _ (by omega)
theorem XR{r:Rd}(h:kp r≠0):dm r=(0,r):=by
 unfold dm
 rw[show(kp r != 0)=true by simpa using h]
 rfl
end Go.aK
namespace Go.aK
open Go Go.aK Go.eK
theorem XS{v:cd}(h:ny v=0):v.s.size≤60:=by
 unfold ny at h
 simp only[cond_eq_ite]at h
 repeat' split at h
 all_goals first
  |(cases h;done)
  |(rename_i aH _;simp at aH;omega)
  |(rename_i aH;simp at aH;omega)
theorem XT{a b:ByteArray}:dE a b=true↔a=b:=by rw[vU];simp
theorem Pc{v:cd}(h:ny v=0):(v.kind=0∧v.n=0∧v.s=⟨#[]⟩)∨((v.kind=1∨v.kind=2∨v.kind=3)∧v.s=⟨#[]⟩∧ -1099511627776≤v.n∧v.n≤1099511627776)∨(v.kind=4∧v.n=0∧v.s.size≤60):=by
 have bM:=XS h
 unfold ny at h
 cases dn:(((v.kind==0)||(v.kind==4))||((v.kind==1)||((v.kind==2)||(v.kind==3))))with
 |false=>rw[dn]at h;cases h
 |true=>
  rw[dn]at h
  cases gR:(bif((v.kind==0)||(v.kind==4))then(v.n==0)else(bif(v.kind==1)then((v.n==0)||(v.n==1))else(bif(v.kind==2)then yz v.n else(decide (v.n≥0)&&decide (v.n≤63)))))with
  |false=>rw[gR]at h;cases h
  |true=>
   rw[gR]at h;simp only[cond_true,Bool.not_true,cond_false]at h;simp only[cond_eq_ite]at h
   split at h
   ·cases h
   ·split at h
    ·cases h
    ·rename_i au
     have ai:v.kind≠4→v.s=⟨#[]⟩:=fun aj=>by
      simp only[Bool.and_eq_true,bne_iff_ne,ne_eq,not_and,Decidable.not_not,Bool.not_eq_true']at au
      cases aH:dE v.s ⟨#[]⟩with
      |true=>exact XT.1 aH
      |false=>exact absurd (au aH) aj
     simp only[Bool.or_eq_true,beq_iff_eq]at dn
     rcases dn with (aL|aP)|aa|ae|au
     ·exact .inl ⟨aL,by simpa[aL]using gR,ai (by omega)⟩
     ·exact .inr (.inr ⟨aP,by simpa[aP]using gR,bM⟩)
     ·refine .inr (.inl ⟨.inl aa,ai (by omega),?_⟩)
      simp[aa]at gR;omega
     ·refine .inr (.inl ⟨.inr (.inl ae),ai (by omega),?_⟩)
      simp[ae,yz]at gR;omega
     ·refine .inr (.inl ⟨.inr (.inr au),ai (by omega),?_⟩)
      simp[au]at gR;omega
def vV(r:Rd):cd × Rd:=
 if(dm r).1=1∨(dm r).1=2∨(dm r).1=3 then(⟨(dm r).1,(dm (dm r).2).1,⟨#[]⟩⟩,(dm (dm r).2).2)
 else if(dm r).1=4 then(⟨(dm r).1,0,(kq (dm r).2 60).1⟩,(kq (dm r).2 60).2)else(⟨(dm r).1,0,⟨#[]⟩⟩,(dm r).2)
theorem Ga(r:Rd):yA r=(vV r).1∧tW r=(vV r).2:=by
 unfold yA tW vV
 simp only[cond_eq_ite,Bool.or_eq_true,beq_iff_eq]
 split
 ·exact⟨rfl,rfl⟩
 ·split<;>exact⟨rfl,rfl⟩
end Go.aK
namespace Go.aK
open Go Go.aK Go.eK
theorem BP{r:dJ}(h:jE r):jE (dt r).2:=by
 unfold dt
 cases (gm r != 0)with
 |true=>exact h
 |false=>
  simp only[cond_false]
  split
  ·rename_i q aH
   have key: ∀(m k:Nat) (a:Int) (q:Int × dJ),k+m≤10→bn (nz r) k m a= .inl q→jE q.2:=by
    intro m
    induction m with
    |zero=>intro k a r _ h;simp[bn]at h
    |succ m aX=>
     intro k a q aj aq;unfold bn at aq
     split at aq
     ·rename_i q' ad
      simp only[Sum.inl.injEq]at aq;subst aq;obtain⟨aa,ae,au⟩:=h;unfold nz at ad;simp only[cond_eq_ite,decide_eq_true_eq]at ad
      have cJ:IntKind.i64.wrap (r.at_+(k:Int))=r.at_+(k:Int):=gQ _ (by omega) (by omega)
      rw[cJ]at ad
      split at ad
      ·cases ad;exact⟨aa,ae,au⟩
      ·rename_i bG
       have dH:IntKind.i64.wrap (r.at_+(k:Int)+1)=r.at_+(k:Int)+1:=gQ _ (by omega) (by omega)
       rw[dH]at ad
       split at ad
       ·split at ad
        ·cases ad;exact⟨aa,ae,au⟩
        ·split at ad
         ·cases ad;exact⟨by first|omega|(dsimp only;omega),by first|omega|(dsimp only;omega),au⟩
         ·cases ad
       ·cases ad
     ·cases aq
     ·exact aX _ _ _ (by omega) aq
   exact key _ _ _ _ (by omega) aH
  ·exact h
theorem BQ(r:dJ)(n:Int):0≤(dv r n).1:=by
 unfold dv
 cases dn:(gm ((dt r).2) != 0)with
 |true=>exact Int.le_refl _
 |false=>
  simp only[cond_false]
  cases gR:decide ((dt r).1<0)with
  |true=>exact Int.le_refl _
  |false=>
   have gR:=of_decide_eq_false gR
   simp only[cond_false,cond_eq_ite]
   repeat' split
   all_goals first|exact Int.le_refl _|omega|(dsimp only;omega)
theorem Gb{r:dJ}{n:Int}(h:jE r):jE (dv r n).2:=by
 have h:=BP h
 unfold dv
 simp only[cond_eq_ite]
 repeat' split
 all_goals exact h
theorem Gc{r:dJ}{n:Int}(h:jE r):jE (lA r n).2:=by
 have h:=Gb (n:=n) h
 have hn:=BQ r n
 unfold lA
 generalize hc:dv r n=c at*
 obtain⟨aa,ae,au⟩:=h
 have cJ:IntKind.i64.wrap ((c.2.s.size:Int)-c.2.at_)=(c.2.s.size:Int)-c.2.at_:=gQ _ (by omega) (by omega)
 rw[cJ]
 simp only[cond_eq_ite,decide_eq_true_eq]
 repeat' split
 ·exact⟨aa,ae,au⟩
 ·exact⟨aa,ae,au⟩
 ·have dH:IntKind.i64.wrap (c.2.at_+c.1)=c.2.at_+c.1:=gQ _ (by omega) (by omega)
  rw[dH];exact⟨by first|omega|(dsimp only;omega),by first|omega|(dsimp only;omega),au⟩
theorem vW(s:ByteArray)(n:Nat):(s.extract n s.size).data.toList=s.data.toList.drop n:=by
 rw[ByteArray.data_extract,Array.toList_extract]
 have ai:s.size=s.data.toList.length:=rfl
 rw[ai]
 simp[List.extract]
 rw[List.take_of_length_le (l:=List.drop n s.data.toList) (by rw[List.length_drop];exact Nat.le_refl _)]
theorem Pd(s:ByteArray)(n j:Nat):(s.extract n s.size).extract j (s.extract n s.size).size=s.extract (n+j) s.size:=BO (by
 rw[vW,vW,vW,List.drop_drop])
def iE(r:Rd)(q:dJ):Prop:=jE q∧r=⟨q.s.extract q.at_.toNat q.s.size,q.bad,q.made⟩
theorem sw{r:Rd}{q:dJ}(h:iE r q):kp r=gm q:=by
 rw[h.2]
 rfl
theorem XU{q:dJ}(an:jE q){k acc:Nat}(aj:k≤9)(aZ:acc<128^k){e:UInt8}(he:(q.s.extract q.at_.toNat q.s.size).data.toList[k]? =some e):nz q k (acc:Int)=
 if(0<k∧e.toNat=0)∨(k=9∧1<e.toNat)then .ret (0,⟨q.s,q.at_,4,q.made⟩)else if e.toNat<128 then .ret (yC (acc+e.toNat%128*128^k),⟨q.s,q.at_+((k+1:Nat):Int),q.bad,q.made⟩)else .bq ((acc+e.toNat%128*128^k:Nat):Int):=by
 obtain⟨aa,ae,au⟩:=an
 have hu:=F8 e
 rw[vW,List.getElem?_drop]at he
 have bG:q.at_.toNat+k<q.s.size:=(List.getElem?_eq_some_iff.1 he).1
 have cJ:IntKind.i64.wrap (q.at_+(k:Int))=q.at_+(k:Int):=gQ _ (by omega) (by omega)
 have dH:IntKind.i64.wrap (q.at_+(k:Int)+1)=q.at_+((k+1:Nat):Int):=by rw[gQ _ (by omega) (by omega)];omega
 have yH:(q.at_+(k:Int)).toNat=q.at_.toNat+k:=by omega
 unfold nz
 dsimp only
 rw[cJ,decide_eq_false (show ¬q.at_+(k:Int)≥(q.s.size:Int)by omega),cond_false,yH,he]
 dsimp only
 rw[dH]
 have XV:(e.toNat:Int).tmod 128=lz .u8 (e.toNat:Int) 127:=by
  rw[show(127:Int)=((127:Nat):Int)from rfl,OW _ _ hu (by decide),nat_mask7,Int.tmod_eq_emod_of_nonneg (by omega)]
  omega
 rw[XV,cond_eq_ite]
 by_cases aa:(0<k∧e.toNat=0)∨(k=9∧1<e.toNat)
 ·rw[if_pos aa,if_pos]
  simp only[Bool.or_eq_true,Bool.and_eq_true,decide_eq_true_eq,beq_iff_eq];omega
 ·have hd:e.toNat%128*128^k<9223372036854775808*2∧acc+e.toNat%128*128^k<18446744073709551616:=by
   rcases Nat.lt_or_ge k 9 with gE|gE
   ·have ak:128^k≤128^8:=Nat.pow_le_pow_right (by decide) (by omega)
    have:e.toNat%128*128^k≤127*128^8:=Nat.mul_le_mul (by omega) ak
    have sv:(128:Nat)^8=72057594037927936:=by decide
    omega
   ·have yE:k=9:=by omega
    subst yE
    have:e.toNat%128*128^9≤1*128^9:=Nat.mul_le_mul (by omega) (Nat.le_refl _)
    have F9:(128:Nat)^9=9223372036854775808:=by decide
    omega
  rw[if_neg aa,if_neg (by
   simp only[Bool.or_eq_true,Bool.and_eq_true,decide_eq_true_eq,beq_iff_eq]
   omega),O4 aj hu aZ (by omega),cond_eq_ite]
  by_cases ae:e.toNat<128
  ·rw[if_pos ae,if_pos (by rw[decide_eq_true_eq];omega)]
   generalize acc+e.toNat%128*128^k=Z at*
   have v1:IntKind.i64.wrap ((Z:Int).fdiv 2)=((Z/ 2:Nat):Int):=by
    rw[Int.fdiv_eq_ediv_of_nonneg _ (by decide),gQ _ (by omega) (by omega)]
    omega
   have v2:(Z:Int).tmod 2=((Z%2:Nat):Int):=by rw[Int.tmod_eq_emod_of_nonneg (by omega)];omega
   rw[v1,v2];unfold yC
   by_cases aL:Z%2=0
   ·rw[if_pos aL,aL]
    rfl
   ·rw[if_neg aL,show Z%2=1 by omega,gQ _ (by omega) (by omega)]
    rfl
  ·rw[if_neg ae,if_neg (by rw[decide_eq_true_eq];omega)]
theorem XW{q:dJ}(an:jE q){k:Nat}{acc:Int}(aj:k≤9)(he:q.s.size≤q.at_.toNat+k):nz q k acc= .ret (0,⟨q.s,q.at_,5,q.made⟩):=by
 obtain⟨aa,ae,au⟩:=an
 have cJ:IntKind.i64.wrap (q.at_+(k:Int))=q.at_+(k:Int):=gQ _ (by omega) (by omega)
 unfold nz
 dsimp only
 rw[cJ,decide_eq_true (show q.at_+(k:Int)≥(q.s.size:Int)by omega)]
 rfl
theorem Pe{q:dJ}(an:jE q): ∀(m k acc:Nat),k+m=10→k≤9→acc<128^k→k≤(q.s.extract q.at_.toNat q.s.size).size→
 bn (nz q) k m (acc:Int)=match bn (qX (q.s.extract q.at_.toNat q.s.size)) k ((q.s.extract q.at_.toNat q.s.size).size-k) (acc:Int)with
  | .inl (U,N,E)=>if E=0 then .inl (yC U.toNat,⟨q.s,q.at_+N,q.bad,q.made⟩)else .inl (0,⟨q.s,q.at_,E,q.made⟩)
  | .inr _=>.inl (0,⟨q.s,q.at_,5,q.made⟩)
 |0,k,acc,hm,aj,_,_=>by omega
 |m+1,k,acc,hm,aj,aZ,bM=>by
  have zjD:(q.s.extract q.at_.toNat q.s.size).size=q.s.size-q.at_.toNat:=by rw[ByteArray.size_extract];omega
  rcases Nat.lt_or_ge k (q.s.extract q.at_.toNat q.s.size).size with bG|hW
  ·obtain⟨e,he⟩: ∃e,(q.s.extract q.at_.toNat q.s.size).data.toList[k]? =some e:=⟨_,List.getElem?_eq_getElem (by exact bG)⟩
   have ak:0<128^k:=Nat.pow_pos (by decide)
   obtain⟨j,af⟩: ∃j,(q.s.extract q.at_.toNat q.s.size).size-k=j+1:=⟨(q.s.extract q.at_.toNat q.s.size).size-k-1,by omega⟩
   rw[af];unfold bn;rw[XU an aj aZ he,O5 he aj aZ]
   by_cases aa:(0<k∧e.toNat=0)∨(k=9∧1<e.toNat)
   ·rw[if_pos aa,if_pos aa]
    rfl
   ·rw[if_neg aa,if_neg aa]
    by_cases ae:e.toNat<128
    ·rw[if_pos ae,if_pos ae]
     dsimp only;rw[if_pos rfl,Int.toNat_natCast]
    ·rw[if_neg ae,if_neg ae]
     dsimp only
     have O8:128^(k+1)=128*128^k:=by rw[Nat.pow_succ,Nat.mul_comm]
     have yF:acc+e.toNat%128*128^k<128^(k+1):=by
      have:e.toNat%128*128^k≤127*128^k:=Nat.mul_le_mul (by omega) (Nat.le_refl _)
      omega
     have O9:k+1≤9:=by
      rcases Nat.lt_or_ge k 9 with gE|gE
      ·omega
      ·exact absurd (Or.inr ⟨by omega,by omega⟩) aa
     rw[Pe an m (k+1) _ (by omega) O9 yF (by omega),show(q.s.extract q.at_.toNat q.s.size).size-(k+1)=j by omega]
  ·rw[show(q.s.extract q.at_.toNat q.s.size).size-k=0 by omega]
   unfold bn;rw[XW an aj (by omega)]
def BR{α:Type}(R:Rd→α × Rd)(S:dJ→α × dJ):Prop:=∀r q,iE r q→(R r).1=(S q).1∧iE (R r).2 (S q).2
theorem XX{q:dJ}(h:gm q≠0):dt q=(0,q):=by
 unfold dt
 rw[show(gm q != 0)=true by simpa using h]
 rfl
theorem vX:BR dm dt:=by
 intro r q h
 have ag:=h
 by_cases aL:gm q=0
 ·have gS:=BP h.1
  have ak:=h.1
  obtain⟨an,rfl⟩:=h;unfold dt F5 at gS⊢;unfold dm;rw[sw ag,aL];rw[aL]at gS;simp only[bne_self_eq_false,cond_false]at gS⊢
  have aq:=Pe an 10 0 0 (by omega) (by omega) (by decide) (by omega)
  rw[Nat.sub_zero]at aq;rw[show((0:Nat):Int)=0 from rfl]at aq
  rw[aq]at gS⊢;generalize ai:q.s.extract q.at_.toNat q.s.size=rest at*;unfold jV yy
  cases aw:bn (qX rest) 0 rest.size 0 with
  |inr a=>
   rw[aw]at gS;dsimp only at gS⊢;exact⟨rfl,gS,by rw[←ai];rfl⟩
  |inl p=>
   obtain⟨U,N,E⟩:=p;rw[aw]at gS;dsimp only at gS⊢
   by_cases e2:E=0
   ·subst e2
    have XY:jV rest=(U,N,0):=by
     unfold jV yy;rw[aw]
    obtain⟨u,t,sx,aG,gT,hu⟩:=Pb XY;subst sx gT;rw[if_pos rfl]at gS⊢;dsimp only at gS⊢
    have mO:rest.extract ((((kr u).size:Nat):Int)).toNat rest.size=q.s.extract (q.at_+(((kr u).size:Nat):Int)).toNat q.s.size:=by
     rw[←ai,Pd,Int.toNat_natCast]
     have:=ak.1
     congr 1
     omega
    refine⟨?_,gS,?_⟩
    ·show jD .i64 _ _=_
     rw[XQ hu,Int.toNat_natCast]
    ·show(⟨rest.extract ((((kr u).size:Nat):Int)).toNat rest.size,q.bad,q.made⟩:Rd)=_
     rw[mO]
   ·rw[if_neg e2]at gS⊢
    rw[show(E != 0)=true by simpa using e2]
    exact⟨rfl,gS,by rw[←ai];rfl⟩
 ·rw[XX aL,XR (by rw[sw h];exact aL)]
  exact⟨rfl,h⟩
theorem Pf{r:Rd}{q:dJ}(h:iE r q):(r.rest.size:Int)=(q.s.size:Int)-q.at_:=by
 obtain⟨⟨aa,ae,au⟩,rfl⟩:=h
 show(((q.s.extract q.at_.toNat q.s.size).size:Nat):Int)=_
 rw[ByteArray.size_extract]
 omega
theorem XZ(n:Int):BR (fun r=>gZ r n) (fun q=>dv q n):=by
 intro r q h
 obtain⟨aa,ae⟩:=vX r q h
 show(gZ r n).1=(dv q n).1∧iE (gZ r n).2 (dv q n).2
 unfold gZ dv
 rw[sw ae,aa]
 have hm:(if 0>n then(0:Int)else n)=bif decide (n<0)then 0 else n:=by
  rw[cond_eq_ite]
  by_cases hn:n<0
  ·rw[if_pos hn,if_pos (decide_eq_true hn)]
  ·rw[if_neg hn,if_neg (by simpa using hn)]
 rw[hm]
 have aj: ∀e:Int,iE ⟨(dm r).2.rest,e,(dm r).2.made⟩ ⟨(dt q).2.s,(dt q).2.at_,e,(dt q).2.made⟩:=fun e=>by
  obtain⟨an,ag⟩:=ae;refine⟨an,?_⟩
  rw[ag]
 cases (gm (dt q).2 != 0)with
 |true=>exact⟨rfl,ae⟩
 |false=>
  simp only[cond_false]
  cases decide ((dt q).1<0)with
  |true=>exact⟨rfl,aj 4⟩
  |false=>
   simp only[cond_false]
   cases decide ((dt q).1>bif decide (n<0)then 0 else n)with
   |true=>exact⟨rfl,aj 3⟩
   |false=>exact⟨rfl,ae⟩
theorem X0(s:ByteArray)(n j:Nat)(h:n+j≤s.size):(s.extract n s.size).extract 0 j=s.extract n (n+j):=BO (by
 rw[ByteArray.data_extract,Array.toList_extract,vW,ByteArray.data_extract,Array.toList_extract]
 have ai:s.size=s.data.toList.length:=rfl
 simp only[List.extract,List.drop_zero,Nat.sub_zero]
 rw[show n+j-n=j by omega])
theorem yI(n:Int):BR (fun r=>kq r n) (fun q=>lA q n):=by
 intro r q h
 obtain⟨aa,ae⟩:=XZ n r q h
 have zjE:=BQ q n
 show(kq r n).1=(lA q n).1∧iE (kq r n).2 (lA q n).2
 have gS:=Gc (n:=n) h.1
 unfold lA at gS⊢
 unfold kq
 dsimp only at aa ae
 rw[sw ae,aa]
 have bM:=Pf ae
 obtain⟨an,ag⟩:=ae
 obtain⟨yJ,Gd,Pg⟩:=an
 generalize dv q n=c at*
 rw[ag]at bM⊢
 generalize hd:gZ r n=d at*
 have cJ:IntKind.i64.wrap ((c.2.s.size:Int)-c.2.at_)=(c.2.s.size:Int)-c.2.at_:=gQ _ (by omega) (by omega)
 rw[cJ]at gS⊢
 dsimp only at bM⊢
 rw[bM]
 cases e2:(gm c.2 != 0)with
 |true=>
  exact⟨rfl,⟨yJ,Gd,Pg⟩,rfl⟩
 |false=>
  rw[e2]at gS;simp only[cond_false]at gS⊢
  by_cases ah:c.1>(c.2.s.size:Int)-c.2.at_
  ·rw[decide_eq_true ah]
   exact⟨rfl,⟨yJ,Gd,Pg⟩,rfl⟩
  ·rw[decide_eq_false ah]at gS⊢
   simp only[cond_false]at gS⊢;refine⟨?_,gS,?_⟩
   ·rw[X0 _ _ _ (by omega)]
    congr 1
    omega
   ·have dH:IntKind.i64.wrap (c.2.at_+c.1)=c.2.at_+c.1:=gQ _ (by omega) (by omega)
    rw[dH,Pd]
    have:c.2.at_.toNat+c.1.toNat=(c.2.at_+c.1).toNat:=by omega
    rw[this]
theorem X1{r:Rd}{q:dJ}(e:Int)(h:iE r q):iE (sq r e) (yB q e):=by
 unfold sq yB
 rw[sw h]
 cases (gm q==0)with
 |true=>exact⟨h.1,by rw[h.2];rfl⟩
 |false=>exact h
theorem X2:BR su vT:=by
 intro r q h
 obtain⟨aa,ae⟩:=vX r q h
 obtain⟨b5,a2⟩:=yI 60 _ _ ae
 obtain⟨gp,im⟩:=vX _ _ ae
 dsimp only at b5 a2
 have aw:(vV r).1=tY q∧iE (vV r).2 (pO q):=by
  have X3:(mN q).kind=(dt q).1:=by
   unfold mN
   cases ((dt q).1==4)<;>rfl
  unfold vV tY pO;rw[X3,aa]
  by_cases aP:(dt q).1=4
  ·rw[if_neg (by omega),if_pos aP,show(decide ((dt q).1≥1)&&decide ((dt q).1≤3))=false by rw[aP];rfl]
   simp only[cond_false];unfold mN tX;rw[show((dt q).1==4)=true by simpa using aP]
   simp only[cond_true];exact⟨by rw[b5],a2⟩
  ·have aB:mN q=⟨(dt q).1,0,⟨#[]⟩⟩:=by
    unfold mN;rw[show((dt q).1==4)=false by simpa using aP]
    rfl
   have bd:tX q=(dt q).2:=by
    unfold tX;rw[show((dt q).1==4)=false by simpa using aP]
    rfl
   rw[aB,bd]
   by_cases au:(dt q).1=1∨(dt q).1=2∨(dt q).1=3
   ·rw[if_pos au,show(decide ((dt q).1≥1)&&decide ((dt q).1≤3))=true by simp;omega]
    simp only[cond_true];exact⟨by rw[gp],im⟩
   ·rw[if_neg au,if_neg aP,show(decide ((dt q).1≥1)&&decide ((dt q).1≤3))=false by simp;omega]
    exact⟨rfl,ae⟩
 obtain⟨v1,v2⟩:=aw
 have bE:iE (ss r) (tZ q):=by
  unfold ss tZ;rw[(Ga r).1,(Ga r).2,v1,OV]
  by_cases e2:gm (pO q)=0
  ·rw[show(gm (pO q)==0)=true by simpa using e2]
   simp only[Bool.true_and]
   cases (sr (tY q) != 0)with
   |true=>exact X1 4 v2
   |false=>exact v2
  ·rw[show(gm (pO q)==0)=false by simpa using e2]
   simp only[Bool.false_and,cond_false]
   cases (sr (tY q) != 0)with
   |true=>
    simp only[cond_true];unfold sq;rw[sw v2,show(gm (pO q)==0)=false by simpa using e2]
    exact v2
   |false=>exact v2
 unfold su vT
 rw[sw bE,(Ga r).1,v1]
 cases (gm (tZ q) != 0)with
 |true=>exact⟨rfl,bE⟩
 |false=>exact⟨rfl,bE⟩
theorem X4{r:Rd}{q:dJ}(h:iE r q):pN r=BN q:=by
 have ai:=Pf h
 unfold pN F4 BN
 rw[sw h]
 cases e2:(gm q != 0)with
 |true=>rfl
 |false=>
  have aL:gm q=0:=OT e2
  simp only[cond_false];rw[ai,aL]
  by_cases aq:q.at_<(q.s.size:Int)
  ·rw[decide_eq_true aq,decide_eq_true (by omega)]
  ·rw[decide_eq_false aq,decide_eq_false (by omega)]
end Go.aK
namespace Go.aK
open Go Go.eK
theorem X5(u:Nat):bz .shr .u64 (u:Int) 7=((u/ 128:Nat):Int):=by
 show(u:Int).fdiv (2^(min (7:Int).toNat 64))=_
 rw[show(2:Int)^(min (7:Int).toNat 64)=128 from rfl,Int.fdiv_eq_ediv_of_nonneg _ (by decide)]
 omega
theorem X6{u:Nat}(h:u<18446744073709551616):bz .quo .u64 (u:Int) 128=((u/ 128:Nat):Int):=by
 show IntKind.u64.wrap ((u:Int).tdiv 128)=_
 rw[Int.tdiv_eq_ediv_of_nonneg (by omega),pP]
 omega
def uc(R:Type)(c:Int × List Int):Step R (Int × List Int):=
 bif decide (c.1≥128)then .bq (bz .shr .u64 c.1 7,List.append c.2 [bz .or .u8 (IntKind.wrap .u8 c.1) 128])else .cN (c.1,c.2)
def ud(R:Type)(c:Int × List Int):Step R (Int × List Int):=
 bif decide (c.1≥128)then .bq (bz .quo .u64 c.1 128,List.append c.2 [IntKind.wrap .u8 (IntKind.wrap .u8 (bz .rem .u64 c.1 128)+128)])else .cN (c.1,c.2)
theorem X7(R:Type){u:Nat}(acc:List Int)(h:u<128):uc R ((u:Int),acc)= .cN ((u:Int),acc):=by
 unfold uc
 rw[show decide ((u:Int)≥128)=false from decide_eq_false (by omega)]
 rfl
theorem Ph(R:Type){u:Nat}(acc:List Int)(h: ¬u<128):uc R ((u:Int),acc)= .bq (((u/ 128:Nat):Int),acc++[((u%128+128:Nat):Int)]):=by
 unfold uc
 rw[show decide ((u:Int)≥128)=true from decide_eq_true (by omega),cond_true,X5]
 show Step.bq (_,acc++[kR .u8 (IntKind.u8.wrap (u:Int)) 128])=_
 rw[XJ]
theorem X8(R:Type){u:Nat}(acc:List Int)(h:u<128):ud R ((u:Int),acc)= .cN ((u:Int),acc):=by
 unfold ud
 rw[show decide ((u:Int)≥128)=false from decide_eq_false (by omega)]
 rfl
theorem Pj(R:Type){u:Nat}(acc:List Int)(h: ¬u<128)(ae:u<18446744073709551616):ud R ((u:Int),acc)= .bq (((u/ 128:Nat):Int),acc++[((u%128+128:Nat):Int)]):=by
 unfold ud
 rw[show decide ((u:Int)≥128)=true from decide_eq_true (by omega),cond_true,X6 ae]
 show Step.bq (_,acc++[IntKind.u8.wrap (IntKind.u8.wrap ((u:Int).tmod 128)+128)])=_
 rw[XK]
theorem Pk{R:Type}{b:Int × List Int→Step R (Int × List Int)}(aq: ∀(u:Nat) acc,u<128→b ((u:Int),acc)= .cN ((u:Int),acc))
 (ah: ∀(u:Nat) acc,¬u<128→u<18446744073709551616→b ((u:Int),acc)= .bq (((u/ 128:Nat):Int),acc++[((u%128+128:Nat):Int)])):
 ∀(f u F:Nat) (acc:List Int),u<128*128^f→u<18446744073709551616→f<F→∃(x:Nat) (l:List Int),c4 b F ((u:Int),acc)= .inr ((x:Int),acc++l)∧(kS f u).map (fun b:Nat=>(b:Int))=l++[(x:Int)]∧x<128
 |f,u,0,acc,h,_,hF=>absurd hF (Nat.not_lt_zero _)
 |f,u,F+1,acc,h,ub,hF=>by
  by_cases hu:u<128
  ·refine⟨u,[],by rw[OZ (aq u acc hu),List.append_nil],?_,hu⟩
   cases f with
   |zero=>rfl
   |succ f=>unfold kS;rw[if_pos hu];rfl
  ·cases f with
   |zero=>exact absurd h (by simpa using hu)
   |succ f=>
    have ae:u/ 128<128*128^f:=by
     rw[Nat.pow_succ]at h;omega
    obtain⟨x,l,aB,bd,cj⟩:=Pk aq ah f (u/ 128) F (acc++[((u%128+128:Nat):Int)]) ae (by omega) (by omega)
    refine⟨x,((u%128+128:Nat):Int)::l,?_,?_,cj⟩
    ·rw[O0 (ah u acc hu ub),aB,List.append_assoc,List.singleton_append]
    ·unfold kS
     rw[if_neg hu,List.map_cons,bd,List.cons_append]
theorem Pl{R:Type}{b:Int × List Int→Step R (Int × List Int)}(aq: ∀(u:Nat) acc,u<128→b ((u:Int),acc)= .cN ((u:Int),acc))
 (ah: ∀(u:Nat) acc,¬u<128→u<18446744073709551616→b ((u:Int),acc)= .bq (((u/ 128:Nat):Int),acc++[((u%128+128:Nat):Int)])){u:Nat}(ub:u<18446744073709551616):
 ∃(x:Nat) (l:List Int),c4 b dU ((u:Int),[])= .inr ((x:Int),l)∧bytesOf (List.append l [IntKind.wrap .u8 (x:Int)])=kr u:=by
 obtain⟨x,l,aB,bd,cj⟩:=Pk aq ah 9 u dU [] (Nat.lt_of_lt_of_le ub (by decide)) ub (by decide)
 refine⟨x,l,aB,?_⟩
 unfold kr
 rw[bd,IntKind.wrap_u8',show(x:Int)%256=(x:Int)by omega]
 rfl
theorem Pm{n:Int}(h:hG n):bz .xor .u64 (bz .shl .u64 (IntKind.wrap .u64 n) 1) (IntKind.wrap .u64 (bz .shr .i64 n 63))=((ha n:Nat):Int):=by
 have:bz .shr .i64 n 63=n.fdiv 9223372036854775808:=rfl
 rw[this]
 exact XH h
theorem BS{n:Int}(h:hG n):fV n=kr (ha n):=by
 obtain⟨x,l,aB,bd⟩:=Pl (R:=ByteArray) (b:=uc ByteArray) (fun u acc=>X7 _ acc) (fun u acc h _=>Ph _ acc h) (q0 h)
 unfold fV
 rw[Pm h]
 show Sum.elim _ _ (c4 (uc ByteArray) dU (((ha n:Nat):Int),[]))=_
 rw[aB]
 exact bd
theorem Ge{n:Int}(h:hG n):fA n=kr (ha n):=by
 obtain⟨x,l,aB,bd⟩:=Pl (R:=ByteArray) (b:=ud ByteArray) (fun u acc=>X8 _ acc) (fun u acc h ae=>Pj _ acc h ae) (q0 h)
 have aZ:=OY h
 unfold fA
 dsimp only
 have key: ∀v:Int,v=((ha n:Nat):Int)→Sum.elim (fun r=>r) (fun bR:Int × List Int=>bytesOf (List.append bR.2 [IntKind.wrap .u8 bR.1])) (c4 (ud ByteArray) dU (v,[]))=kr (ha n):=by
  rintro v rfl
  rw[aB];exact bd
 cases hd:decide (n<0)with
 |true=>
  rw[hd,cond_true]at aZ;exact key _ aZ
 |false=>
  rw[hd,cond_false]at aZ;exact key _ aZ
theorem yK{u:Nat}:(kr u).size≤10:=by rw[O3];exact XM 9 u
def q1(d:Int × List Int):Prop:=∃(u f:Nat),d.1=(u:Int)∧u<18446744073709551616∧u<128*128^f∧d.2.length+f≤9
theorem Pn{u:Nat}(h:u<18446744073709551616):q1 ((u:Int),[]):=⟨u,9,rfl,h,Nat.lt_of_lt_of_le h (by decide),Nat.le_refl _⟩
theorem Po{u:Nat}{acc:List Int}(h:q1 ((u:Int),acc))(hu: ¬u<128):q1 (((u/ 128:Nat):Int),acc++[((u%128+128:Nat):Int)]):=by
 obtain⟨v,f,aa,ae,au,aP⟩:=h
 have:u=v:=by have:(u:Int)=v:=aa;omega
 subst this
 cases f with
 |zero=>exact absurd au (by simpa using hu)
 |succ f=>
  have aP:acc.length+(f+1)≤9:=aP
  exact⟨u/ 128,f,rfl,by omega,by rw[Nat.pow_succ]at au;omega,by show(acc++[_]).length+f≤9;rw[List.length_append];simp;omega⟩
theorem BT{d:Int × List Int}(h:q1 d):d.2.length≤9:=by
 obtain⟨_,f,_,_,_,aP⟩:=h
 omega
theorem Pp{d:Int × List Int}(h:q1 d): ∃(u:Nat) (acc:List Int),d=((u:Int),acc)∧u<18446744073709551616:=by
 obtain⟨u,_,aa,ae,_⟩:=h
 exact⟨u,d.2,by rw[←aa],ae⟩
theorem vY{n:Int}(h:hG n):oy n:=by
 unfold oy
 rw[Pm h]
 refine⟨q1,fun d=>d.1.toNat,Pn (q0 h),?_,fun d hd=>⟨fun hc=>?_,fun hc=>?_⟩⟩
 ·have:=q0 h
  show(((ha n:Nat):Int)).toNat<dU;unfold dU;omega
 ·obtain⟨u,acc,rfl,hu⟩:=Pp hd
  have aq:acc.length≤9:=BT hd
  have hc: ¬u<128:=by have:=of_decide_eq_true hc;simp only at this;omega
  have ad:=Ph Unit acc hc
  unfold uc at ad;rw[show decide ((u:Int)≥128)=true from decide_eq_true (by omega),cond_true]at ad
  have aB:=congrArg (fun s=>match s with|Step.bq x=>x.1|_=>0) ad
  have bd:=congrArg (fun s=>match s with|Step.bq x=>x.2|_=>[]) ad
  simp only at aB bd;refine⟨⟨?_,?_⟩,?_,?_⟩
  ·show acc.length+1≤maxLen
   unfold maxLen;omega
  ·show(acc.length+1)*1≤_
   omega
  ·show q1 (bz .shr .u64 (u:Int) 7,List.append acc [bz .or .u8 (IntKind.wrap .u8 (u:Int)) 128])
   rw[aB,bd];exact Po hd hc
  ·show(bz .shr .u64 (u:Int) 7).toNat<(u:Int).toNat
   rw[aB];omega
 ·have aq:=BT hd
  refine⟨?_,?_⟩
  ·show d.2.length+1≤maxLen
   unfold maxLen;omega
  ·show(d.2.length+1)*1≤_
   omega
theorem oz{n:Int}(h:hG n):iF n:=by
 have key: ∀v:Int,v=((ha n:Nat):Int)→∃(bB:(Int × (List Int))→Prop) (hb:(Int × (List Int))→Nat),bB (v,[])∧hb (v,[])<dU∧∀(d0:Int × (List Int)),bB d0→(
  ((decide (d0.1≥128))=true→(
   let v11:List Int:=([(IntKind.wrap .u8 ((IntKind.wrap .u8 (bz .rem .u64 d0.1 (128:Int)))+(128:Int)))]:List Int)
   (List.length d0.2+List.length v11≤maxLen∧(List.length d0.2+List.length v11)*1≤140737488355328)∧
   bB ((bz .quo .u64 d0.1 (128:Int)),(List.append d0.2 v11))∧hb ((bz .quo .u64 d0.1 (128:Int)),(List.append d0.2 v11))<hb d0))∧((decide (d0.1≥128))=false→(
   List.length d0.2+List.length ([IntKind.wrap .u8 d0.1]:List Int)≤maxLen∧(List.length d0.2+List.length ([IntKind.wrap .u8 d0.1]:List Int))*1≤140737488355328))):=by
   rintro v rfl
   refine⟨q1,fun d=>d.1.toNat,Pn (q0 h),?_,fun d hd=>⟨fun hc=>?_,fun hc=>?_⟩⟩
   ·have:=q0 h
    show(((ha n:Nat):Int)).toNat<dU;unfold dU;omega
   ·obtain⟨u,acc,rfl,hu⟩:=Pp hd
    have aq:acc.length≤9:=BT hd
    have hc: ¬u<128:=by have:=of_decide_eq_true hc;simp only at this;omega
    have ad:=Pj Unit acc hc hu
    unfold ud at ad;rw[show decide ((u:Int)≥128)=true from decide_eq_true (by omega),cond_true]at ad
    have aB:=congrArg (fun s=>match s with|Step.bq x=>x.1|_=>0) ad
    have bd:=congrArg (fun s=>match s with|Step.bq x=>x.2|_=>[]) ad
    simp only at aB bd;refine⟨⟨?_,?_⟩,?_,?_⟩
    ·show acc.length+1≤maxLen
     unfold maxLen;omega
    ·show(acc.length+1)*1≤_
     omega
    ·show q1 (bz .quo .u64 (u:Int) 128,List.append acc [IntKind.wrap .u8 (IntKind.wrap .u8 (bz .rem .u64 (u:Int) 128)+128)])
     rw[aB,bd];exact Po hd hc
    ·show(bz .quo .u64 (u:Int) 128).toNat<(u:Int).toNat
     rw[aB];omega
   ·have aq:=BT hd
    refine⟨?_,?_⟩
    ·show d.2.length+1≤maxLen
     unfold maxLen;omega
    ·show(d.2.length+1)*1≤_
     omega
 have aZ:=OY h
 unfold iF
 refine⟨fun hd=>?_,fun hd=>?_⟩
 ·rw[hd,cond_true]at aZ
  exact key _ aZ
 ·rw[hd,cond_false]at aZ
  exact key _ aZ
def ff(s:ByteArray):Prop:=s.size≤140737488351232
theorem ff.i64{s:ByteArray}(h:ff s):hG (s.size:Int):=by unfold ff at h;exact⟨by omega,by omega⟩
theorem Gf{s:ByteArray}(h:ff s):h7 s=kr (ha s.size)++s:=by
 unfold h7
 rw[BS h.i64]
 rfl
theorem X9{s:ByteArray}(h:ff s):iG s=kr (ha s.size)++s:=by
 unfold iG
 rw[Ge h.i64]
 rfl
theorem ue{s:ByteArray}(h:ff s):(h7 s).size≤140737488351242:=by
 rw[Gf h,ByteArray.size_append]
 have:=yK (u:=ha s.size)
 unfold ff at h
 omega
theorem yL{s:ByteArray}(h:ff s):sy s:=by
 refine⟨vY h.i64,?_⟩
 have:=yK (u:=ha s.size)
 rw[BS h.i64]
 unfold ff at h
 omega
theorem vZ{s:ByteArray}(h:ff s):pQ s:=by
 refine⟨oz h.i64,?_⟩
 have:=yK (u:=ha s.size)
 rw[Ge h.i64]
 unfold ff at h
 omega
theorem oA{s:ByteArray}(h:ff s):iG s=h7 s:=by rw[X9 h,Gf h]
theorem l5{n:Int}(h:hG n):fA n=fV n:=by rw[Ge h,BS h]
theorem kT{n:Int}(h:hG n):(fV n).size≤10:=by rw[BS h];exact yK
end Go.aK
namespace Go.aK
open Go Go.eK
theorem Ya(r:Rd)(n:Int):0≤(gZ r n).1:=by
 unfold gZ
 cases dn:((kp ((dm r).2)) != 0)with
 |true=>exact Int.le_refl _
 |false=>
  simp only[cond_false]
  cases gR:decide ((dm r).1<0)with
  |true=>exact Int.le_refl _
  |false=>
   simp only[cond_false]
   have gR:=of_decide_eq_false gR
   cases q2:decide ((dm r).1>(if 0>n then 0 else n))with
   |true=>exact Int.le_refl _
   |false=>
    simp only[cond_false];omega
theorem BU(v:cd):ku v=ny v:=by
 unfold ku ny cM
 dsimp only
 have:sz v.n=yz v.n:=rfl
 rw[this]
 cases (v.kind==0)<;>cases (v.kind==4)<;>cases (v.kind==1)<;>cases (v.kind==2)<;>cases (v.kind==3)<;>rfl
theorem Pq(v:cd):pR v=sr v:=by
 unfold pR sr cM
 dsimp only
 cases (v.kind==0)<;>cases (v.kind==4)<;>cases (v.kind==1)<;>cases (v.kind==2)<;>cases (v.kind==3)<;>rfl
theorem Gg(v:cd):pR v=ku v:=by rw[Pq,BU,OV]
theorem q3(r:Rd):nA r=(r,kp r):=by
 unfold nA kp
 cases r.made<;>rfl
theorem q4(r:cn):mP r=(r,gm r):=by
 unfold mP gm
 cases r.made<;>rfl
def dw(s:ByteArray):Prop:=s.size≤4611686018427387904
theorem Gh{s:ByteArray}{k:Nat}(h:k<s.size):s.data.toList[k]? =some (s.data.toList.getD k 0)∧ei s (k:Int)=((s.data.toList.getD k 0).toNat:Int):=by
 have aq:k<s.data.toList.length:=h
 refine⟨by rw[List.getD_eq_getElem?_getD,List.getElem?_eq_getElem aq];rfl,?_⟩
 unfold ei
 rw[Int.toNat_natCast]
theorem Pr{s:ByteArray}(h:dw s):yM s=jV s:=by
 unfold dw at h
 unfold yM jV yy
 dsimp only
 rw[Int.toNat_natCast,yN (b:=qX s) (fun _ _=>True) s.size (fun i v hi _=>⟨?_,fun _ _=>trivial⟩) s.size 0 0 (Nat.zero_add _) trivial]
 ·cases bn (qX s) 0 s.size 0<;>rfl
 ·obtain⟨aB,bd⟩:=Gh hi
  unfold qX;dsimp only;rw[aB,bd];dsimp only
  have hw:IntKind.wrap .i64 ((i:Int)+1)=((i+1:Nat):Int):=by rw[gQ _ (by omega) (by omega)];omega
  rw[hw];rfl
theorem nB{r:Rd}(h:dw r.rest):gq r=((dm r).2,(dm r).1):=by
 unfold gq dm
 rw[q3]
 dsimp only
 rw[Pr h]
 cases (kp r != 0)with
 |true=>rfl
 |false=>
  simp only[cond_false]
  cases ((jV r.rest).2.2 != 0)<;>rfl
theorem Ps{s:ByteArray}{a b:Nat}(h:dw s):dw (s.extract a b):=by
 unfold dw at h⊢
 rw[ByteArray.size_extract]
 omega
theorem pS{r:Rd}(h:dw r.rest):dw (dm r).2.rest:=by
 unfold dm
 simp only[cond_eq_ite]
 repeat' split
 all_goals first|exact h|exact Ps h
theorem Yb{r:Rd}{n:Int}(h:dw r.rest):dw (gZ r n).2.rest:=by
 have:=pS h
 unfold gZ
 simp only[cond_eq_ite]
 repeat' split
 all_goals exact this
theorem yO{r:Rd}{n:Int}(h:dw r.rest):dw (kq r n).2.rest:=by
 have:=Yb (n:=n) h
 unfold kq
 simp only[cond_eq_ite]
 repeat' split
 all_goals first|exact this|exact Ps this
theorem Pt{r:Rd}{n:Int}(h:dw r.rest):yP r n=((gZ r n).2,(gZ r n).1):=by
 unfold yP gZ
 rw[nB h]
 dsimp only
 rw[q3]
 simp only[cond_eq_ite]
 repeat' split
 all_goals first|rfl|(simp_all[cC.den])
theorem q5{r:Rd}{n:Int}(h:dw r.rest):hH r n=((kq r n).2,(kq r n).1):=by
 unfold hH kq
 rw[Pt h]
 dsimp only
 rw[q3]
 simp only[cond_eq_ite]
 repeat' split
 all_goals rfl
theorem Yc(r:Rd)(e:Int):BV r e=sq r e:=by
 unfold BV sq
 rw[q3]
theorem Pu(r:Rd):(⟨r.rest,r.err,r.made⟩:Rd)=r:=rfl
theorem Pv{r:Rd}(h:dw r.rest):uf r=((su r).2,(su r).1):=by
 have aa:=pS h
 unfold uf su ss yA tW
 rw[nB h]
 dsimp only
 rw[nB aa,q5 aa]
 simp only[q3,Yc,BU,Pu]
 cases ((dm r).1==1)<;>cases ((dm r).1==2)<;>cases ((dm r).1==3)<;>cases ((dm r).1==4)<;>simp only[cond_true,cond_false,Bool.true_or,Bool.or_true,Bool.false_or,Bool.or_false,Pu]<;>(cases (ny _ != 0)<;>simp only[cond_true,cond_false]<;>(cases (kp _ != 0)<;>rfl))
theorem Yd(r:Rd):(v7 r).2=pN r:=by
 unfold v7 Gi pN F4
 rw[q3]
 dsimp only
 cases (kp r != 0)<;>simp only[cond_true,cond_false]<;>rw[q3]<;>simp only[cond_eq_ite]<;>split<;>rfl
theorem oB{q:cn}(an:jE q):iH q=((dt q).2,(dt q).1):=by
 have lB:=an
 obtain⟨aa,ae,au⟩:=an
 unfold iH dt F5
 rw[q4]
 dsimp only
 cases (gm q != 0)with
 |true=>rfl
 |false=>
  simp only[cond_false]
  rw[show Int.toNat 10=10 from rfl,yN (b:=fun i v=>h8 (fun x:Int × dJ=>(x.2,x.1)) (nz q i v)) (fun _ _=>True) 10 (fun i v hi _=>⟨?_,fun _ _=>trivial⟩) 10 0 0 (Nat.zero_add _) trivial,
   ug (fun x:Int × dJ=>(x.2,x.1)) (b:=nz q) (fun _ _=>rfl)]
  ·cases bn (nz q) 0 10 0<;>rfl
  ·have cJ:IntKind.wrap .i64 (q.at_+(i:Int))=q.at_+(i:Int):=gQ _ (by omega) (by omega)
   unfold nz;dsimp only
   cases hd:decide (IntKind.wrap .i64 (q.at_+(i:Int))≥(q.s.size:Int))with
   |true=>rfl
   |false=>
    have hd:=of_decide_eq_false hd
    rw[cJ]at hd;obtain⟨j,af⟩: ∃j:Nat,q.at_+(i:Int)=(j:Int):=⟨(q.at_+i).toNat,by omega⟩
    obtain⟨aB,bd⟩:=Gh (s:=q.s) (k:=j) (by omega)
    simp only[cond_false];rw[cJ,af,Int.toNat_natCast,aB,bd];dsimp only;show(bif _ then _ else bif _ then(bif _ then _ else _)else _)=h8 _ (bif _ then _ else bif _ then _ else _)
    simp only[cond_eq_ite]
    split
    ·rfl
    ·split
     ·show(if _ then _ else _)=Step.ret (_,if _ then _ else _)
      have ad: ∀(c:Bool) (A:cn) (x y:Int),(if c=true then(Step.ret (A,x):Step (cn × Int) Int)else Step.ret (A,y))=Step.ret (A,if c=true then x else y):=fun c A x y=>by cases c<;>rfl
      exact ad _ _ _ _
     ·rfl
theorem Pw{q:cn}{n:Int}(an:jE q):yQ q n=((dv q n).2,(dv q n).1):=by
 unfold yQ dv
 rw[oB an]
 dsimp only
 rw[q4]
 cases decide (n<0)<;>simp only[cond_true,cond_false]<;>simp only[cond_eq_ite]<;>(repeat' split)<;>rfl
theorem q6{q:cn}{n:Int}(an:jE q):iY q n=((lA q n).2,(lA q n).1):=by
 obtain⟨aa,ae,au⟩:=Gb (n:=n) an
 have hn:=BQ q n
 unfold iY lA
 rw[Pw an]
 dsimp only
 rw[q4]
 dsimp only
 have cJ:IntKind.i64.wrap (((dv q n).2.s.size:Int)-(dv q n).2.at_)=((dv q n).2.s.size:Int)-(dv q n).2.at_:=gQ _ (by omega) (by omega)
 rw[cJ]
 cases (gm (dv q n).2 != 0)with
 |true=>rfl
 |false=>
  simp only[cond_false]
  cases hd:decide ((dv q n).1>((dv q n).2.s.size:Int)-(dv q n).2.at_)with
  |true=>rfl
  |false=>
   have hd:=of_decide_eq_false hd
   have dH:IntKind.i64.wrap ((dv q n).2.at_+(dv q n).1)=(dv q n).2.at_+(dv q n).1:=gQ _ (by omega) (by omega)
   simp only[cond_false];rw[dH];rfl
theorem Ye(q:cn)(e:Int):BW q e=yB q e:=by
 unfold BW yB
 rw[q4]
theorem Px(r:cn):(⟨r.s,r.at_,r.bad,r.made⟩:cn)=r:=rfl
theorem Py{q:cn}(an:jE q):uh q=((vT q).2,(vT q).1):=by
 have aa:=BP an
 have ae:=Gc (n:=60) aa
 unfold uh vT tZ pO tY mN tX
 rw[oB an]
 dsimp only
 rw[q6 aa]
 simp only[Px]
 rw[oB aa,oB ae]
 simp only[q4,Ye,Pq,Px]
 cases ((dt q).1==4)<;>simp only[cond_true,cond_false]<;>cases (decide ((dt q).1≥1)&&decide ((dt q).1≤3))<;>simp only[cond_true,cond_false]<;>(cases e2:(gm _==0)<;>simp only[cond_true,cond_false,Bool.true_and,Bool.false_and,bne_self_eq_false])<;>(repeat (cases (sr _ != 0)<;>simp only[cond_true,cond_false]))<;>(cases (gm _ != 0)<;>rfl)
theorem Yf(q:cn):(BX q).2=BN q:=by
 unfold BX BN
 rw[q4]
 dsimp only
 rw[q4]
 simp only[cond_eq_ite]
 repeat' split
 all_goals rfl
end Go.aK
namespace Go.aK
open Go Go.eK
theorem Yg{s:ByteArray}(h:dw s):Gj s:=by
 unfold dw at h
 refine⟨⟨by omega,by omega⟩,fun i _=>i≤9,Nat.zero_le _,fun i d _ hi=>?_⟩
 have hi:i≤9:=hi
 intro v5 hc
 refine⟨?_,fun oC=>?_⟩
 ·show 0≤IntKind.wrap .i64 (7*(i:Int))
  rw[gQ _ (by omega) (by omega)]
  omega
 ·have oC:=of_decide_eq_false oC
  show i+1≤9
  rcases Nat.lt_or_ge i 9 with gE|gE
  ·exact gE
  ·have:i=9:=by omega
   subst this;simp only[Bool.or_eq_false_iff,Bool.and_eq_false_iff]at hc
   rcases hc.2 with h|h
   ·exact absurd h (by decide)
   ·have:=of_decide_eq_false h
    omega
theorem Yh{s:ByteArray}(h:(jV s).2.2=0):0≤(jV s).2.1∧(jV s).2.1≤(s.size:Int):=by
 obtain⟨u,t,aa,ae,au,aP⟩:=Pb (s:=s) (U:=(jV s).1) (N:=(jV s).2.1) (by rw[←h])
 rw[au]
 have:=congrArg ByteArray.size ae
 rw[ByteArray.size_append]at this
 omega
theorem oD{r:Rd}(h:dw r.rest):nC r:=by
 unfold nC
 rw[q3]
 intro v1 _
 refine⟨Yg h,fun hc=>?_⟩
 have hc:=OT hc
 rw[Pr h]at hc⊢
 exact Yh hc
theorem Yi{r:Rd}{n:Int}(h:dw r.rest):Gk r n:=oD h
theorem sA{r:Rd}{n:Int}(h:dw r.rest):sB r n:=by
 refine⟨Yi h,?_⟩
 rw[Pt h]
 show(_ != 0)=false→_
 rw[q3]
 intro _ hd
 have hd:=of_decide_eq_false hd
 have hn:=Ya r n
 have hd: ¬(gZ r n).1>((gZ r n).2.rest.size:Int):=hd
 exact⟨⟨hn,by omega⟩,hn,by omega⟩
theorem Yj{r:Rd}(h:dw r.rest):BY r:=by
 have aa:=pS h
 unfold BY
 rw[nB h]
 dsimp only
 refine⟨oD h,⟨fun _=>⟨fun _=>oD aa,fun _ _=>sA aa⟩,fun _=>⟨fun _=>⟨fun _=>oD aa,fun _ _=>sA aa⟩,fun _=>⟨fun _=>oD aa,fun _ _=>sA aa⟩⟩⟩⟩
theorem Yk{r:Rd}{e:Int}(h:dw r.rest):dw (sq r e).rest:=by
 unfold sq
 cases (kp r==0)<;>exact h
theorem Yl{r:Rd}(h:dw r.rest):dw (su r).2.rest:=by
 have aa:=pS h
 have ae:dw (tW r).rest:=by
  unfold tW;simp only[cond_eq_ite]
  repeat' split
  ·exact pS aa
  ·exact yO aa
  ·exact aa
 have au:dw (ss r).rest:=by
  unfold ss;simp only[cond_eq_ite]
  split
  ·exact Yk ae
  ·exact ae
 unfold su
 simp only[cond_eq_ite]
 split<;>exact au
def kU(s:ByteArray):Int × Rd:=dm (OR s)
def kV(s:ByteArray):Int × Rd:=dm (kU s).2
def nD(s:ByteArray):Int × Rd:=dm (kV s).2
def nE(s:ByteArray):ByteArray × Rd:=kq (nD s).2 24
def nF(s:ByteArray):ByteArray × Rd:=kq (nE s).2 24
def nG(s:ByteArray):ByteArray × Rd:=kq (nF s).2 24
def pT(s:ByteArray):cd × Rd:=su (nG s).2
def oE(s:ByteArray):ByteArray × Rd:=kq (pT s).2 20000
def fu(s:ByteArray):bs:=⟨(kU s).1,(kV s).1,⟨(nD s).1,(nE s).1,(nF s).1⟩,(nG s).1,(pT s).1,(oE s).1⟩
def Gl:bs:=⟨0,0,⟨0,⟨#[]⟩,⟨#[]⟩⟩,⟨#[]⟩,⟨0,0,⟨#[]⟩⟩,⟨#[]⟩⟩
def BZ(s:ByteArray):bs × Int:=
 if pN (oE s).2≠0 then(Gl,pN (oE s).2)else if(fu s).kind<1∨(fu s).kind>7 then(Gl,7)else if(fu s).dy<0∨(fu s).dy>1099511627776 then(Gl,2)else(fu s,0)
theorem Pz{s:ByteArray}(h:dw s):dw (kU s).2.rest∧dw (kV s).2.rest∧dw (nD s).2.rest∧dw (nE s).2.rest∧dw (nF s).2.rest∧dw (nG s).2.rest∧dw (pT s).2.rest:=by
 have aa:dw (kU s).2.rest:=pS h
 have ae:dw (kV s).2.rest:=pS aa
 have au:dw (nD s).2.rest:=pS ae
 have aP:dw (nE s).2.rest:=yO au
 have bE:dw (nF s).2.rest:=yO aP
 have cF:dw (nG s).2.rest:=yO bE
 exact⟨aa,ae,au,aP,bE,cF,Yl cF⟩
theorem Xs{s:ByteArray}(h:dw s):ui s=BZ s:=by
 obtain⟨aa,ae,au,aP,bE,cF,dZ⟩:=Pz h
 have aB:gq ⟨s,0,true⟩=((kU s).2,(kU s).1):=nB (r:=⟨s,0,true⟩) h
 have bd:gq (kU s).2=((kV s).2,(kV s).1):=nB aa
 have cj:gq (kV s).2=((nD s).2,(nD s).1):=nB ae
 have eo:hH (nD s).2 24=((nE s).2,(nE s).1):=q5 au
 have kt:hH (nE s).2 24=((nF s).2,(nF s).1):=q5 aP
 have mQ:hH (nF s).2 24=((nG s).2,(nG s).1):=q5 bE
 have pU:uf (nG s).2=((pT s).2,(pT s).1):=Pv cF
 have sv:hH (pT s).2 20000=((oE s).2,(oE s).1):=q5 dZ
 unfold ui BZ
 simp only[aB,bd,cj,eo,kt,mQ,pU,sv,Yd]
 unfold v8 wa
 by_cases e2:pN (oE s).2=0
 ·rw[e2,if_neg (fun h=>h rfl)]
  simp only[bne_self_eq_false,cond_false];show(bif(bif(decide ((fu s).kind<1)||decide ((fu s).kind>7))then(7:Int)else 0) != 0 then _ else _)=_
  by_cases hK:(fu s).kind<1∨(fu s).kind>7
  ·rw[if_pos hK,show(decide ((fu s).kind<1)||decide ((fu s).kind>7))=true by simpa using hK]
   have:(decide ((kU s).1<1)||decide ((kU s).1>7))=true:=by have hK:(kU s).1<1∨(kU s).1>7:=hK;simpa using hK
   rw[this];rfl
  ·rw[if_neg hK,show(decide ((fu s).kind<1)||decide ((fu s).kind>7))=false by simp only[not_or]at hK;simp only[Bool.or_eq_false_iff,decide_eq_false_iff_not];exact hK]
   show(bif(bif(decide ((fu s).dy<0)||decide ((fu s).dy>1099511627776))then(2:Int)else 0) != 0 then _ else _)=_
   by_cases gT:(fu s).dy<0∨(fu s).dy>1099511627776
   ·rw[if_pos gT,show(decide ((fu s).dy<0)||decide ((fu s).dy>1099511627776))=true by simpa using gT]
    have:(decide ((kV s).1<0)||decide ((kV s).1>1099511627776))=true:=by have gT:(kV s).1<0∨(kV s).1>1099511627776:=gT;simpa using gT
    rw[this];rfl
   ·rw[if_neg gT,show(decide ((fu s).dy<0)||decide ((fu s).dy>1099511627776))=false by simp only[not_or]at gT;simp only[Bool.or_eq_false_iff,decide_eq_false_iff_not];exact gT]
    rfl
 ·rw[if_pos e2,show(pN (oE s).2 != 0)=true by simpa using e2]
  simp only[cond_true];rfl
theorem OL{s:ByteArray}(h:dw s):yR s:=by
 obtain⟨aa,ae,au,aP,bE,cF,dZ⟩:=Pz h
 have aB:gq ⟨s,0,true⟩=((kU s).2,(kU s).1):=nB (r:=⟨s,0,true⟩) h
 have bd:gq (kU s).2=((kV s).2,(kV s).1):=nB aa
 have cj:gq (kV s).2=((nD s).2,(nD s).1):=nB ae
 have eo:hH (nD s).2 24=((nE s).2,(nE s).1):=q5 au
 have kt:hH (nE s).2 24=((nF s).2,(nF s).1):=q5 aP
 have mQ:hH (nF s).2 24=((nG s).2,(nG s).1):=q5 bE
 have pU:uf (nG s).2=((pT s).2,(pT s).1):=Pv cF
 unfold yR
 simp only[aB,bd,cj,eo,kt,mQ,pU]
 exact⟨oD (r:=⟨s,0,true⟩) h,oD aa,oD ae,sA au,sA aP,sA bE,Yj cF,sA dZ⟩
def oF(s:ByteArray):Int × cn:=dt (OS s)
def oG(s:ByteArray):Int × cn:=dt (oF s).2
def pV(s:ByteArray):Int × cn:=dt (oG s).2
def pW(s:ByteArray):ByteArray × cn:=lA (pV s).2 24
def pX(s:ByteArray):ByteArray × cn:=lA (pW s).2 24
def pY(s:ByteArray):ByteArray × cn:=lA (pX s).2 24
def oH(s:ByteArray):cd × cn:=vT (pY s).2
def yS(s:ByteArray):ByteArray × cn:=lA (oH s).2 20000
theorem B0{s:ByteArray}(h:dw s):iE (OR s) (OS s):=by
 refine⟨⟨Int.le_refl _,by show(0:Int)≤s.size;omega,h⟩,?_⟩
 show(⟨s,0,true⟩:Rd)=⟨s.extract 0 s.size,0,true⟩
 rw[show s.extract 0 s.size=s from BO (by rw[vW];rfl)]
theorem PA{s:ByteArray}(h:dw s):((kU s).1=(oF s).1∧iE (kU s).2 (oF s).2)∧((kV s).1=(oG s).1∧iE (kV s).2 (oG s).2)∧((nD s).1=(pV s).1∧iE (nD s).2 (pV s).2)∧((nE s).1=(pW s).1∧iE (nE s).2 (pW s).2)∧
 ((nF s).1=(pX s).1∧iE (nF s).2 (pX s).2)∧((nG s).1=(pY s).1∧iE (nG s).2 (pY s).2)∧((pT s).1=(oH s).1∧iE (pT s).2 (oH s).2)∧((oE s).1=(yS s).1∧iE (oE s).2 (yS s).2):=by
 have aa:=vX _ _ (B0 h)
 have ae:=vX _ _ aa.2
 have au:=vX _ _ ae.2
 have aP:=yI 24 _ _ au.2
 have bE:=yI 24 _ _ aP.2
 have cF:=yI 24 _ _ bE.2
 have dZ:=X2 _ _ cF.2
 exact⟨aa,ae,au,aP,bE,cF,dZ,yI 20000 _ _ dZ.2⟩
theorem Xt{s:ByteArray}(h:dw s):yT s=BZ s:=by
 obtain⟨s1,s2,kv,ky,kz,kA,kW,Gm⟩:=PA h
 have aB:iH ⟨s,0,0,true⟩=((oF s).2,(oF s).1):=oB (q:=⟨s,0,0,true⟩) (B0 h).1
 have bd:iH (oF s).2=((oG s).2,(oG s).1):=oB s1.2.1
 have cj:iH (oG s).2=((pV s).2,(pV s).1):=oB s2.2.1
 have eo:iY (pV s).2 24=((pW s).2,(pW s).1):=q6 kv.2.1
 have kt:iY (pW s).2 24=((pX s).2,(pX s).1):=q6 ky.2.1
 have mQ:iY (pX s).2 24=((pY s).2,(pY s).1):=q6 kz.2.1
 have pU:uh (pY s).2=((oH s).2,(oH s).1):=Py kA.2.1
 have sv:iY (oH s).2 20000=((yS s).2,(yS s).1):=q6 kW.2.1
 unfold yT BZ
 simp only[aB,bd,cj,eo,kt,mQ,pU,sv,Yf]
 rw[←X4 Gm.2]
 have aj:(oF s).1=(fu s).kind:=s1.1.symm
 have hn:(oG s).1=(fu s).dy:=s2.1.symm
 have hd:(⟨(oF s).1,(oG s).1,⟨(pV s).1,(pW s).1,(pX s).1⟩,(pY s).1,⟨(oH s).1.kind,(oH s).1.n,(oH s).1.s⟩,(yS s).1⟩:bs)=fu s:=by
  unfold fu;rw[s1.1,s2.1,kv.1,ky.1,kz.1,kA.1,kW.1,Gm.1]
 rw[hd,aj,hn]
 by_cases e2:pN (oE s).2=0
 ·rw[e2,if_neg (fun h=>h rfl)]
  simp only[bne_self_eq_false,cond_false]
  by_cases hK:(fu s).kind<1∨(fu s).kind>7
  ·rw[if_pos hK,show(decide ((fu s).kind<1)||decide ((fu s).kind>7))=true by simpa using hK]
   rfl
  ·rw[if_neg hK,show(decide ((fu s).kind<1)||decide ((fu s).kind>7))=false by simp only[not_or]at hK;simp only[Bool.or_eq_false_iff,decide_eq_false_iff_not];exact hK]
   by_cases gT:(fu s).dy<0∨(fu s).dy>1099511627776
   ·rw[if_pos gT,show(decide ((fu s).dy<0)||decide ((fu s).dy>1099511627776))=true by simpa using gT]
    rfl
   ·rw[if_neg gT,show(decide ((fu s).dy<0)||decide ((fu s).dy>1099511627776))=false by simp only[not_or]at gT;simp only[Bool.or_eq_false_iff,decide_eq_false_iff_not];exact gT]
    rfl
 ·rw[if_pos e2,show(pN (oE s).2 != 0)=true by simpa using e2]
  rfl
theorem uj{q:cn}(an:jE q):q7 q:=by
 obtain⟨aa,ae,au⟩:=an
 unfold q7
 rw[q4]
 intro v1 _
 refine⟨fun _ _=>True,trivial,fun i d hi _=>?_⟩
 have hi:i<10:=hi
 have cJ:IntKind.wrap .i64 (q.at_+(i:Int))=q.at_+(i:Int):=gQ _ (by omega) (by omega)
 show decide (IntKind.wrap .i64 (q.at_+(i:Int))≥(q.s.size:Int))=false→(0≤IntKind.wrap .i64 (q.at_+(i:Int))∧IntKind.wrap .i64 (q.at_+(i:Int))<(q.s.size:Int))∧_
 rw[cJ]
 intro hd
 have hd:=of_decide_eq_false hd
 refine⟨⟨by omega,by omega⟩,fun _=>⟨?_,fun _=>trivial⟩⟩
 show 0≤IntKind.wrap .i64 (7*(i:Int))
 rw[gQ _ (by omega) (by omega)]
 omega
theorem Ym{q:cn}{n:Int}(an:jE q):Gn q n:=uj an
theorem yU{q:cn}{n:Int}(an:jE q):uk q n:=by
 obtain⟨aa,ae,au⟩:=Gb (n:=n) an
 have hn:=BQ q n
 refine⟨Ym an,?_⟩
 rw[Pw an]
 show(_ != 0)=false→_
 rw[q4]
 intro _ hd
 have cJ:IntKind.i64.wrap (((dv q n).2.s.size:Int)-(dv q n).2.at_)=((dv q n).2.s.size:Int)-(dv q n).2.at_:=gQ _ (by omega) (by omega)
 have hd:decide ((dv q n).1>IntKind.i64.wrap (((dv q n).2.s.size:Int)-(dv q n).2.at_))=false:=hd
 rw[cJ]at hd
 have hd:=of_decide_eq_false hd
 have dH:IntKind.i64.wrap ((dv q n).2.at_+(dv q n).1)=(dv q n).2.at_+(dv q n).1:=gQ _ (by omega) (by omega)
 show 0≤(dv q n).2.at_∧(dv q n).2.at_≤IntKind.i64.wrap ((dv q n).2.at_+(dv q n).1)∧IntKind.i64.wrap ((dv q n).2.at_+(dv q n).1)≤((dv q n).2.s.size:Int)
 rw[dH]
 omega
theorem Yn{q:cn}(an:jE q):B1 q:=by
 have aa:=BP an
 have ae:=Gc (n:=60) aa
 unfold B1
 rw[oB an]
 dsimp only
 refine⟨uj an,fun _=>⟨yU aa,?_⟩,fun _ _=>uj aa⟩
 rw[q6 aa]
 exact fun _=>uj ae
theorem Xp{s:ByteArray}(h:dw s):B2 s:=by
 obtain⟨s1,s2,kv,ky,kz,kA,kW,Gm⟩:=PA h
 have aB:iH ⟨s,0,0,true⟩=((oF s).2,(oF s).1):=oB (q:=⟨s,0,0,true⟩) (B0 h).1
 have bd:iH (oF s).2=((oG s).2,(oG s).1):=oB s1.2.1
 have cj:iH (oG s).2=((pV s).2,(pV s).1):=oB s2.2.1
 have eo:iY (pV s).2 24=((pW s).2,(pW s).1):=q6 kv.2.1
 have kt:iY (pW s).2 24=((pX s).2,(pX s).1):=q6 ky.2.1
 have mQ:iY (pX s).2 24=((pY s).2,(pY s).1):=q6 kz.2.1
 have pU:uh (pY s).2=((oH s).2,(oH s).1):=Py kA.2.1
 unfold B2
 simp only[aB,bd,cj,eo,kt,mQ,pU]
 exact⟨uj (q:=⟨s,0,0,true⟩) (B0 h).1,uj s1.2.1,uj s2.2.1,yU kv.2.1,yU ky.2.1,yU kz.2.1,Yn kA.2.1,yU kW.2.1⟩
end Go.aK
namespace Go.aK
open Go Go.eK
def oI(P:Int→Int→Bool)(x:ByteArray):Nat→Nat→Bool
 |_,0=>true
 |k,n+1=>!P (ei x (k:Int)) (k:Int)&&oI P x (k+1) n
theorem PB{P:Int→Int→Bool}{x:ByteArray}{b:Nat→Unit→Step Bool Unit}(ad: ∀i v,b i v=bif P (ei x (i:Int)) (i:Int)then .ret false else .bq ()):
 ∀(n k:Nat),bn b k n ()=bif oI P x k n then .inr ()else .inl false
 |0,_=>rfl
 |n+1,k=>by
  unfold bn oI;rw[ad]
  cases P (ei x (k:Int)) (k:Int)with
  |true=>rfl
  |false=>exact PB ad n (k+1)
theorem PC{x:ByteArray}{k:Nat}(aj:k<x.size):ei x (k:Int)=((x[k]'aj).toNat:Int):=by
 rw[(Gh aj).2,List.getD_eq_getElem?_getD,List.getElem?_eq_getElem (show k<x.data.toList.length from aj)]
 rfl
theorem PD{P:Int→Int→Bool}(q8: ∀c i,128≤c→P c i=true){x:ByteArray}{b:Int→Step Bool Int}
 (ad: ∀c,b c=bif cC.den .l6 x c then(bif P (cC.den .l7 x c) (cC.den .l8 x c)then .ret false else .bq (cC.den .kX x c))else .cN c):
 ∀(n p F:Nat),x.size-p=n→n<F→∃v,c4 b F (p:Int)=bif oI P x p n then .inr v else .inl false
 |n,p,0,_,h=>absurd h (Nat.not_lt_zero _)
 |0,p,F+1,hn,_=>by
  refine⟨(p:Int),?_⟩
  have:cC.den .l6 x (p:Int)=false:=decide_eq_false (by rw[Int.toNat_natCast];omega)
  rw[OZ (y:=(p:Int)) (by rw[ad,this,cond_false]),oI,cond_true]
 |n+1,p,F+1,hn,hF=>by
  have ak:p<x.size:=by omega
  have aa:cC.den .l6 x (p:Int)=true:=decide_eq_true (by rw[Int.toNat_natCast];exact ak)
  have au:cC.den .l8 x (p:Int)=(p:Int):=by show((p:Int).toNat:Int)=p;rw[Int.toNat_natCast]
  have ae:cC.den .l7 x (p:Int)=((Utf8.decode x p).1:Int):=by show((Utf8.decode x (p:Int).toNat).1:Int)=_;rw[Int.toNat_natCast]
  have aP:cC.den .kX x (p:Int)=((p+(Utf8.decode x p).2:Nat):Int):=by show(((p:Int).toNat+(Utf8.decode x (p:Int).toNat).2:Nat):Int)=_;rw[Int.toNat_natCast]
  rcases Nat.lt_or_ge (x[p]'ak).toNat 128 with aZ|aZ
  ·have hd:=decode_ascii x p ak aZ
   have aw:((Utf8.decode x p).1:Int)=ei x (p:Int):=by rw[hd,PC ak]
   have Yo:p+(Utf8.decode x p).2=p+1:=by rw[hd]
   cases aH:P (ei x (p:Int)) (p:Int)with
   |true=>
    refine⟨0,?_⟩
    unfold c4 oI;rw[ad,aa,cond_true,ae,au,aw,aH];rfl
   |false=>
    obtain⟨v,aX⟩:=PD q8 ad n (p+1) F (by omega) (by omega)
    refine⟨v,?_⟩
    rw[O0 (y:=((p+1:Nat):Int)) (by rw[ad,aa,cond_true,ae,au,aw,aH,cond_false,aP,Yo]),aX]
    conv=>rhs;rw[oI]
    rw[aH];rfl
  ·have hd:=(decode_high x p ak aZ).1
   have aB:P ((Utf8.decode x p).1:Int) (p:Int)=true:=q8 _ _ (by omega)
   have bd:P (ei x (p:Int)) (p:Int)=true:=q8 _ _ (by rw[PC ak];omega)
   refine⟨0,?_⟩
   unfold c4 oI;rw[ad,aa,cond_true,ae,au,aB,bd];rfl
theorem Yp{P:Int→Int→Bool}(q8: ∀c i,128≤c→P c i=true){x:ByteArray}(ub:x.size<18446744073709551616):
 ∃(bB:Int→Prop) (hb:Int→Nat),bB 0∧hb 0<dU∧∀(d0:Int),bB d0→(cC.den .l6 x d0=true→(P (cC.den .l7 x d0) (cC.den .l8 x d0)=false→bB (cC.den .kX x d0)∧hb (cC.den .kX x d0)<hb d0)):=by
 refine⟨fun d=>0≤d,fun d=>x.size-d.toNat,Int.le_refl _,by unfold dU;show x.size-(0:Int).toNat<_;omega,fun d hd aa ae=>?_⟩
 obtain⟨p,rfl⟩: ∃p:Nat,d=p:=⟨d.toNat,(Int.toNat_of_nonneg hd).symm⟩
 have ak:p<x.size:=by have:=of_decide_eq_true aa;rwa[Int.toNat_natCast]at this
 have au:cC.den .l8 x (p:Int)=(p:Int):=by show((p:Int).toNat:Int)=p;rw[Int.toNat_natCast]
 have wb:cC.den .l7 x (p:Int)=((Utf8.decode x p).1:Int):=by show((Utf8.decode x (p:Int).toNat).1:Int)=_;rw[Int.toNat_natCast]
 have aP:cC.den .kX x (p:Int)=((p+(Utf8.decode x p).2:Nat):Int):=by show(((p:Int).toNat+(Utf8.decode x (p:Int).toNat).2:Nat):Int)=_;rw[Int.toNat_natCast]
 rcases Nat.lt_or_ge (x[p]'ak).toNat 128 with aZ|aZ
 ·have hd:=decode_ascii x p ak aZ
  rw[aP,hd];refine⟨by show(0:Int)≤_;omega,?_⟩
  show x.size-(((p+1:Nat):Int)).toNat<x.size-((p:Int)).toNat;omega
 ·have hd:=(decode_high x p ak aZ).1
  rw[wb,au,q8 _ _ (by omega)]at ae
  cases ae
def pZ(c i:Int):Bool:=(!(decide (c≥97)&&decide (c≤122)))&&((i==0)||(((c != 95)&&(c != 45))&&((decide (c<48))||(decide (c>57)))))
theorem PE(c i:Int)(h:128≤c):pZ c i=true:=by
 unfold pZ
 have aa:decide (c≤122)=false:=decide_eq_false (by omega)
 have ae:(c != 95)=true:=by simp;omega
 have au:(c != 45)=true:=by simp;omega
 have aP:decide (c>57)=true:=decide_eq_true (by omega)
 simp only[aa,ae,au,aP,Bool.and_false,Bool.not_false,Bool.and_true,Bool.or_true,Bool.true_and]
def valid(x:ByteArray):Bool:=bif((decide ((ByteArray.size x:Int)<1))||(decide ((ByteArray.size x:Int)>24)))then false else oI pZ x 0 x.size
theorem wc(x:ByteArray):iq x=valid x:=by
 unfold iq valid
 cases h:((decide ((ByteArray.size x:Int)<1))||(decide ((ByteArray.size x:Int)>24)))with
 |true=>rfl
 |false=>
  simp only[Bool.or_eq_false_iff,decide_eq_false_iff_not]at h;simp only[cond_false];obtain⟨v,aw⟩:=PD PE (x:=x) (b:=fun(aV:Int)=>bif cC.den .l6 x aV then(bif pZ (cC.den .l7 x aV) (cC.den .l8 x aV)then Step.ret false else .bq (cC.den .kX x aV))else .cN aV) (fun _=>rfl) x.size 0 dU (by omega) (by unfold dU;omega)
  have:(c4 (fun(aV:Int)=>bif cC.den .l6 x aV then(bif pZ (cC.den .l7 x aV) (cC.den .l8 x aV)then Step.ret false else .bq (cC.den .kX x aV))else .cN aV) dU 0:Bool⊕Int)=_:=aw
  show Sum.elim _ _ (c4 (fun(aV:Int)=>bif cC.den .l6 x aV then(bif pZ (cC.den .l7 x aV) (cC.den .l8 x aV)then Step.ret false else .bq (cC.den .kX x aV))else .cN aV) dU 0:Bool⊕Int)=_
  rw[this]
  cases oI pZ x 0 x.size<;>rfl
theorem q9(x:ByteArray):nH x:=by
 intro h
 simp only[Bool.or_eq_false_iff,decide_eq_false_iff_not]at h
 exact Yp PE (x:=x) (by omega)
theorem we(x:ByteArray):jW x=valid x:=by
 unfold jW valid
 dsimp only
 cases h:((decide ((ByteArray.size x:Int)<1))||(decide ((ByteArray.size x:Int)>24)))with
 |true=>rfl
 |false=>
  simp only[cond_false];rw[Int.toNat_natCast];show Sum.elim _ _ (bn (fun(i6:Nat) (_:Unit)=>bif pZ (ei x (i6:Int)) (i6:Int)then(Step.ret false:Step Bool Unit)else .bq ()) 0 x.size ())=_
  rw[PB (P:=pZ) (x:=x) (fun _ _=>rfl)]
  cases oI pZ x 0 x.size<;>rfl
theorem sC(x:ByteArray):p0 x:=by
 intro h
 simp only[Bool.or_eq_false_iff,decide_eq_false_iff_not]at h
 omega
end Go.aK
namespace Go.aK
open Go Go.eK
theorem um(a b:ByteArray):ByteArray.size (ByteArray.append a b)=a.size+b.size:=ByteArray.size_append
theorem ra{n:Int}(aa: -1099511627776≤n)(ae:n≤1099511627776):hG n:=⟨by omega,by omega⟩
structure Gp (v:cd):Prop where
 k:hG v.kind
 n:hG v.n
 s:ff v.s
theorem PF{v:cd}(h:ku v≠0):mR v=fV 0:=by
 unfold mR
 rw[show(ku v != 0)=true by simpa using h]
 rfl
theorem Yq{v:cd}(h:ku v≠0):uo v=fA 0:=by
 unfold uo
 rw[Gg,show(ku v != 0)=true by simpa using h]
 rfl
theorem PG{s:ByteArray}(h:s.size≤60):ff s:=by unfold ff;omega
theorem PH(v:cd):uo v=mR v:=by
 by_cases h:ku v=0
 ·have hc:ny v=0:=by rw[←BU];exact h
  unfold uo mR;rw[Gg,show(ku v != 0)=false by simpa using h]
  rcases Pc hc with⟨aa,ae,au⟩|⟨aa,ae,au,aP⟩|⟨aa,ae,au⟩
  ·rw[aa]
   exact l5 (n:=0) (ra (by decide) (by decide))
  ·have hn:fA v.n=fV v.n:=l5 (ra au aP)
   rcases aa with aa|aa|aa<;>rw[aa]<;>simp only[cond_false]<;>rw[hn]<;>rfl
  ·have ai:iG v.s=h7 v.s:=oA (PG au)
   rw[aa];simp only[cond_false];rw[ai];rfl
 ·rw[PF h,Yq h]
  exact l5 (n:=0) (ra (by decide) (by decide))
theorem Yr{s:ByteArray}(h:s.size≤60):(h7 s).size≤70:=by
 rw[Gf (PG h),ByteArray.size_append]
 have:=yK (u:=ha s.size)
 omega
theorem wg:hG 0:=ra (by decide) (by decide)
theorem Ys(v:cd):(mR v).size≤80:=by
 have aL:=kT wg
 by_cases h:ku v=0
 ·have hc:ny v=0:=by rw[←BU];exact h
  unfold mR;rw[show(ku v != 0)=false by simpa using h]
  rcases Pc hc with⟨aa,ae,au⟩|⟨aa,ae,au,aP⟩|⟨aa,ae,au⟩
  ·rw[aa]
   show(fV 0).size≤80;omega
  ·have hn:=kT (ra au aP)
   rcases aa with aa|aa|aa
   ·rw[aa]
    show(ByteArray.append (fV 1) (fV v.n)).size≤80;rw[um]
    have:=kT (n:=1) (ra (by decide) (by decide))
    omega
   ·rw[aa]
    show(ByteArray.append (fV 2) (fV v.n)).size≤80;rw[um]
    have:=kT (n:=2) (ra (by decide) (by decide))
    omega
   ·rw[aa]
    show(ByteArray.append (fV 3) (fV v.n)).size≤80;rw[um]
    have:=kT (n:=3) (ra (by decide) (by decide))
    omega
  ·have ai:=Yr au
   rw[aa];show(ByteArray.append (fV 4) (h7 v.s)).size≤80;rw[um]
   have:=kT (n:=4) (ra (by decide) (by decide))
   omega
 ·rw[PF h]
  omega
def B3(k n:Int)(s:ByteArray)(b:Bool):Prop:=(b=true→(oy n∧(fV k).size+(fV n).size≤9223372036854775807))∧(b=false→((k==4)=true→(sy s∧(fV k).size+(h7 s).size≤9223372036854775807)))
theorem Yt{v:cd}(aw:Gp v):Gq v:=by
 have key: ∀(k n:Int) (s:ByteArray),hG k→hG n→ff s→(oy k)∧((k==1)=true→B3 k n s (k==1))∧((k==1)=false→((k==2)=true→B3 k n s (k==2))∧((k==2)=false→B3 k n s (k==3))):=by
  intro k n s aj hn ai
  have b5:=kT aj
  have a2:=kT hn
  have a3:=ue ai
  have af: ∀b,B3 k n s b:=fun b=>⟨fun _=>⟨vY hn,by omega⟩,fun _ _=>⟨yL ai,by omega⟩⟩
  exact⟨vY aj,fun _=>af _,fun _=>⟨fun _=>af _,fun _=>af _⟩⟩
 exact⟨fun _=>key 0 0 ⟨#[]⟩ wg wg (by unfold ff;exact Nat.zero_le _),fun _=>key v.kind v.n v.s aw.k aw.n aw.s⟩
theorem Yu{v:cd}(aw:Gp v):Gr v:=by
 have key: ∀(k n:Int) (s:ByteArray),hG k→hG n→ff s→((k==0)=true→iF 0)∧((k==0)=false→(((k==4)=true→(iF k∧pQ s∧(fA k).size+(iG s).size≤9223372036854775807))∧((k==4)=false→(iF k∧iF n∧(fA k).size+(fA n).size≤9223372036854775807)))):=by
  intro k n s aj hn ai
  have b5:=kT aj
  have a2:=kT hn
  have a3:=ue ai
  rw[←l5 aj]at b5;rw[←l5 hn]at a2;rw[←oA ai]at a3;exact⟨fun _=>oz wg,fun _=>⟨fun _=>⟨oz aj,vZ ai,by omega⟩,fun _=>⟨oz aj,oz hn,by omega⟩⟩⟩
 exact⟨fun _=>key 0 0 ⟨#[]⟩ wg wg (by unfold ff;exact Nat.zero_le _),fun _=>key v.kind v.n v.s aw.k aw.n aw.s⟩
structure pJ (q:bs):Prop where
 k:hG q.kind
 n:hG q.dy
 d:hG q.key.dev
 c:ff q.key.dk
 a:ff q.key.attr
 m:ff q.name
 v:Gp q.value
 t:ff q.text
theorem Xu{q:bs}(h:pJ q):yV q=ox q:=by
 unfold yV ox
 rw[l5 h.k,l5 h.n,l5 h.d,oA h.c,oA h.a,oA h.m,PH,oA h.t]
theorem Gs{q:bs}(h:pJ q):(fV q.kind).size≤10∧(fV q.dy).size≤10∧(fV q.key.dev).size≤10∧(h7 q.key.dk).size≤140737488351242∧(h7 q.key.attr).size≤140737488351242∧(h7 q.name).size≤140737488351242∧(mR q.value).size≤80∧(h7 q.text).size≤140737488351242:=
 ⟨kT h.k,kT h.n,kT h.d,ue h.c,ue h.a,ue h.m,Ys _,ue h.t⟩
theorem Yv{q:bs}(h:pJ q):dw (ox q):=by
 obtain⟨aa,ae,au,aP,bE,cF,dZ,oC⟩:=Gs h
 have PI:(mR ⟨q.value.kind,q.value.n,q.value.s⟩).size≤80:=dZ
 unfold dw ox
 simp only[um]
 omega
theorem OM{q:bs}(h:pJ q):B4 q:=by
 obtain⟨aa,ae,au,aP,bE,cF,dZ,oC⟩:=Gs h
 have PI:(mR ⟨q.value.kind,q.value.n,q.value.s⟩).size≤80:=dZ
 refine⟨vY h.k,vY h.n,?_,vY h.d,?_,yL h.c,?_,yL h.a,?_,yL h.m,?_,Yt h.v,?_,yL h.t,?_⟩<;>(try simp only[um])<;>omega
theorem Xq{q:bs}(h:pJ q):Gt q:=by
 obtain⟨aa,ae,au,aP,bE,cF,dZ,oC⟩:=Gs h
 have PI:(mR ⟨q.value.kind,q.value.n,q.value.s⟩).size≤80:=dZ
 refine⟨oz h.k,oz h.n,?_,oz h.d,?_,vZ h.c,?_,vZ h.a,?_,vZ h.m,?_,Yu h.v,?_,vZ h.t,?_⟩<;>(try simp only[um,l5 h.k,l5 h.n,l5 h.d,oA h.c,oA h.a,oA h.m,PH,oA h.t])<;>omega
end Go.aK
namespace Go.aK
open Go Go.eK
theorem Gu{l:List ByteArray}(h:l.length≤1000000):wh l:=by
 unfold wh maxLen
 omega
theorem Yw{l:List cO}(h:l.length≤1000000):B5 l:=by
 unfold B5 maxLen
 omega
theorem Yx(l:List ByteArray):B6 l:=by
 unfold B6
 repeat' (first|exact trivial|exact q9 _|intro _|refine And.intro ?_ ?_|refine Exists.intro (fun _ _=>True) (And.intro trivial ?_))
theorem Gv(a:Attr):wi a:=by
 unfold wi
 repeat' (first|exact trivial|exact q9 _|exact Yx _|intro _|refine And.intro ?_ ?_|refine Exists.intro (fun _ _=>True) (And.intro trivial ?_))
theorem Gw(a:Attr)(v:cd):yW a v:=Gv a
theorem B7{α:Type}{l:List α}{i:Nat}{d:α}(h:i<l.length):List.getD l i d∈l:=by
 rw[List.getD_eq_getElem?_getD,List.getElem?_eq_getElem h]
 exact List.getElem_mem h
theorem toNat_cast(n:Nat):Int.toNat (n:Int)=n:=Int.toNat_natCast n
theorem PJ{c:aJ}{x:ByteArray}(h: ∀a∈c.attrs,a.enum.length≤64):yX c x:=by
 refine⟨fun _ _=>True,trivial,fun i _ hi _=>⟨fun _=>Gu ?_,fun _=>trivial⟩⟩
 rw[toNat_cast]at hi⊢
 have:=h _ (B7 (d:=aA .Attr) hi)
 omega
theorem PK(x y:List ByteArray):Gx x y:=by
 intro h
 have h:((x.length:Int) != (y.length:Int))=false:=h
 have h:(x.length:Int)=(y.length:Int):=by simpa using h
 refine⟨fun _ _=>True,trivial,fun i _ hi _=>⟨?_,fun _=>trivial⟩⟩
 rw[toNat_cast]at hi
 omega
theorem Yy(a b:Attr):Gy a b:=fun _=>PK _ _
theorem Yz(x:cO)(a b:Attr):B8 x a b:=by
 unfold B8
 repeat' (first|exact trivial|exact Gw _ _|exact Yy _ _|intro _|refine And.intro ?_ ?_)
theorem YA{c:aJ}(a:Attr)(x:cO)(h: ∀a∈c.attrs,a.enum.length≤64):B9 c a x:=by
 unfold B9
 repeat' (first|exact trivial|exact PJ h|exact Yz _ _ _|intro _|refine And.intro ?_ ?_)
theorem uq{α:Type}{l:List α}{i:Int}(aL:0≤i)(h:i≤l.length):iZ l.length none (some i):=by
 simp only[iZ]
 omega
theorem YB{c:aJ}{i:Int}(h: ∀a∈c.attrs,a.enum.length≤64)(aL:0≤i)(aa:i<c.commands.length):Ca c i:=by
 unfold Ca
 repeat' (first|exact trivial|exact aL|exact aa|exact q9 _|exact Gv _|exact YA _ _ h|exact uq aL (by omega)|intro _|refine And.intro ?_ ?_|refine Exists.intro (fun _ _=>True) (And.intro trivial ?_))
theorem nI{a:Int}(h:(a != 0)=false):a=0:=by simpa using h
theorem YC{l:List ByteArray}(h:wj l=0):l.length≤64:=by
 unfold wj at h
 dsimp only at h
 simp only[cond_eq_ite]at h
 split at h
 ·cases h
 ·rename_i ai
  simp only[Bool.or_eq_true,decide_eq_true_eq,not_or]at ai;omega
theorem Gz{a:Attr}(h:kY a=0):a.enum.length≤64:=by
 unfold kY at h
 dsimp only at h
 simp only[cond_eq_ite]at h
 repeat' split at h
 all_goals first|(cases h;done)|exact YC h|(rename_i ai;simp only[decide_eq_true_eq]at ai;omega)
theorem YD(c:aJ):GA c:=by
 refine⟨q9 _,fun _ _=>⟨fun k _=>∀j,j<k→∀a,c.attrs[j]? =some a→a.enum.length≤64,fun j af=>absurd af (by omega),fun i _ hi bV=>⟨Gv _,fun oC=>⟨?_,⟨fun _ _=>True,trivial,fun _ _ _ _ _=>trivial,fun _ _=>?_⟩⟩⟩,fun _ bV=>?_⟩⟩
 ·rw[toNat_cast]at hi
  exact uq (by omega) (by omega)
 ·have oC:=Gz (nI oC)
  rw[toNat_cast]at hi oC;show ∀j,j<i+1→∀a,c.attrs[j]? =some a→a.enum.length≤64;intro j af a aZ
  by_cases gr:j=i
  ·subst gr
   rw[List.getD_eq_getElem?_getD,aZ]at oC
   exact oC
  ·exact bV j (by omega) a aZ
 ·rw[toNat_cast]at bV
  have dn: ∀a∈c.attrs,a.enum.length≤64:=fun a aZ=>by
   obtain⟨j,af,rfl⟩:=List.mem_iff_getElem.1 aZ;exact bV j af _ (List.getElem?_eq_getElem af)
  refine⟨fun _ _=>True,trivial,fun i _ hi _=>⟨YB dn (by omega) (by rw[toNat_cast]at hi;omega),fun _=>trivial⟩,fun _ _=>⟨fun _ _=>True,trivial,fun i _ hi _=>⟨q9 _,fun _=>⟨uq (by omega) (by rw[toNat_cast]at hi;omega),fun _=>trivial⟩⟩⟩⟩
theorem YE(l:List aJ):GB l:=by
 refine fun _=>⟨fun _ _=>True,trivial,fun i _ hi _=>⟨YD _,fun _=>⟨uq (by omega) (by rw[toNat_cast]at hi;omega),⟨fun _ _=>True,trivial,fun _ _ _ _ _=>trivial,fun _ _=>trivial⟩⟩⟩⟩
theorem sD{n:Int}(aa: -9223372036854775808≤n)(ae:n≤9223372036854775807):IntKind.wrap .i64 n=n:=by
 rw[IntKind.wrap_i64]
 omega
theorem GC(h:Home):yY h:=by
 refine⟨YE _,fun _ au=>⟨fun _ _=>True,trivial,fun i _ hi _ _=>⟨fun aw=>?_,fun _ _=>⟨q9 _,fun _ _=>trivial⟩⟩⟩⟩
 have aw:=of_decide_eq_true aw
 have au:=of_decide_eq_false au
 rw[toNat_cast]at hi
 show 0≤IntKind.wrap .i64 ((i:Int)-1)∧IntKind.wrap .i64 ((i:Int)-1)<(h.bl.length:Int)
 rw[sD (by omega) (by omega)]
 omega
theorem GD(h:Home)(x:Int):yZ h x:=GC h
end Go.aK
