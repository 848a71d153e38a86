/- Numbers, texts, values, readers: the spec functions. Conditions: none. -/
import Derived.Test.YtmkpmgfieagphaaGreatDoorRTEk
import Derived.Laws.RangeString
import Derived.Laws.RangeAny
import Derived.Laws.BitsAllLaws
import Derived.Laws.DeepNot64
import Derived.Test.YtmkpmgfieagphaaGreatDoorRPm
import Derived.Test.YtmkpmgfieagphaaGreatDoorRPg
namespace Go.aM
open Go Go.aM Go.ed
abbrev dH:=ch
def p8(s:ByteArray)(kP:Nat)(p9:Int):Step (Int × Int × Int) (Int):=
 match p9 with
 |(qa)=>(match(s.data.toList)[kP]? with|some mz=>(bif((decide ((kP:Int)>0)&&((mz.toNat:Int)==0))||(((kP:Int)==9)&&decide ((mz.toNat:Int)>1)))then .ret (0,0,4)else(bif decide ((mz.toNat:Int)<128)then .ret (kQ .u64 qa (IntKind.u64.wrap ((IntKind.u64.wrap (lr .u8 (mz.toNat:Int) 127))*2^(min (IntKind.i64.wrap (7*(kP:Int))).toNat 64))),((kP+1:Nat):Int),0)else .bn (kQ .u64 qa (IntKind.u64.wrap ((IntKind.u64.wrap (lr .u8 (mz.toNat:Int) 127))*2^(min (IntKind.i64.wrap (7*(kP:Int))).toNat 64))))))|none=>.bn p9)
def xv(s:ByteArray)(p9:Int):(Int × Int × Int)⊕(Int):=bL (p8 s) 0 s.size p9
def jF(s:ByteArray):Int × Int × Int:=
 (match(xv s (0))with| .inl Ef=>Ef| .inr (qa)=>(0,0,5))
def jG(r:Rd):(Int):=
 (bif !r.made then 15 else r.err)
def cW(r:Rd):(Int × Rd):=
 (bif((jG r) != 0)then(0,r)else(bif((((jF r.rest).2).2) != 0)then(0,(⟨r.rest,(((jF r.rest).2).2),r.made⟩:Rd))else(jk .i64 (IntKind.i64.wrap (((jF r.rest).1).fdiv 2)) (IntKind.i64.wrap (0-IntKind.i64.wrap (lr .u64 ((jF r.rest).1) 1))),(⟨r.rest.extract ((((jF r.rest).2).1).toNat) r.rest.size,r.err,r.made⟩:Rd))))
def gq(r:Rd)(n:Int):(Int × Rd):=
 (bif((jG ((cW r).2)) != 0)then(0,((cW r).2))else(bif decide ((cW r).1<0)then(0,(⟨((cW r).2).rest,4,((cW r).2).made⟩:Rd))else(bif decide ((cW r).1>(if 0>n then 0 else n))then(0,(⟨((cW r).2).rest,3,((cW r).2).made⟩:Rd))else((cW r).1,((cW r).2)))))
def iF(r:Rd)(n:Int):(ByteArray × Rd):=
 (bif((jG ((gq r n).2)) != 0)then(⟨#[]⟩,((gq r n).2))else(bif decide ((gq r n).1>(((((gq r n).2).rest).size:Nat):Int))then(⟨#[]⟩,(⟨((gq r n).2).rest,5,((gq r n).2).made⟩:Rd))else((((gq r n).2).rest).extract 0 (((gq r n).1).toNat),(⟨(((gq r n).2).rest).extract (((gq r n).1).toNat) (((gq r n).2).rest).size,((gq r n).2).err,((gq r n).2).made⟩:Rd))))
def rE(r:Rd)(e:Int):(Rd):=
 (bif((jG r)==0)then(⟨r.rest,e,r.made⟩:Rd)else r)
def Eg(r:Rd):(Int):=
 (bif((jG r) != 0)then 0 else(r.rest.size:Int))
def o7(r:Rd):(Int):=
 (bif decide ((Eg r)>0)then 23 else(jG r))
def xw(n:Int):Bool:=
 (decide (n≥ -1099511627776)&&decide (n≤1099511627776))
def kl(v:bI):Int:=
 (bif(((v.kind==0)||(v.kind==4))||((v.kind==1)||((v.kind==2)||(v.kind==3))))then(bif !(bif((v.kind==0)||(v.kind==4))then(v.n==0)else(bif(v.kind==1)then((v.n==0)||(v.n==1))else(bif(v.kind==2)then xw v.n else(decide (v.n≥0)&&decide (v.n≤63)))))then 2 else(bif decide ((v.s.size:Int)>60)then 3 else(bif(!bq v.s (⟨#[]⟩)&&(v.kind != 4))then 4 else 0)))else 7)
def rF(v:bI):Int:=
 (bif(((v.kind==0)||(v.kind==4))||((v.kind==1)||((v.kind==2)||(v.kind==3))))then(bif(decide (v.n<(bif(((v.kind==0)||(v.kind==4))||((v.kind==1)|| !(v.kind==2)))then 0 else -1099511627776))||decide (v.n>(bif((v.kind==0)||(v.kind==4))then 0 else(bif(v.kind==1)then 1 else(bif(v.kind==2)then 1099511627776 else 63)))))then 2 else(bif decide ((v.s.size:Int)>60)then 3 else(bif(!bq v.s (⟨#[]⟩)&&(v.kind != 4))then 4 else 0)))else 7)
def s4(r:Rd):bI:=(bif(((cW r).1==1)||(((cW r).1==2)||((cW r).1==3)))then(⟨(cW r).1,(cW ((cW r).2)).1,⟨#[]⟩⟩:bI)else(bif((cW r).1==4)then(⟨(cW r).1,0,(iF ((cW r).2) 60).1⟩:bI)else(⟨(cW r).1,0,⟨#[]⟩⟩:bI)))
def s5(r:Rd):Rd:=(bif(((cW r).1==1)||(((cW r).1==2)||((cW r).1==3)))then((cW ((cW r).2)).2)else(bif((cW r).1==4)then((iF ((cW r).2) 60).2)else((cW r).2)))
def rG(r:Rd):Rd:=(bif(kl (s4 r) != 0)then(rE (s5 r) 4)else(s5 r))
def o8(r:Rd):(bI × Rd):=
 (bif((jG (rG r)) != 0)then((⟨0,0,⟨#[]⟩⟩:bI),(rG r))else((s4 r),(rG r)))
def ga(r:dH):(Int):=
 (bif !r.made then 15 else r.bad)
def ny(r:dH)(kP:Nat)(p9:Int):Step (Int × dH) (Int):=
 match p9 with
 |(qa)=>(bif decide (IntKind.i64.wrap (r.at_+(kP:Int))≥(r.s.size:Int))then .ret (0,(⟨r.s,r.at_,5,r.made⟩:dH))else(match(r.s.data.toList)[(IntKind.i64.wrap (r.at_+(kP:Int))).toNat]? with|some mz=>(bif((decide ((kP:Int)>0)&&((mz.toNat:Int)==0))||(((kP:Int)==9)&&decide ((mz.toNat:Int)>1)))then .ret (0,(⟨r.s,r.at_,4,r.made⟩:dH))else(bif decide ((mz.toNat:Int)<128)then .ret ((bif((kQ .u64 qa (IntKind.u64.wrap ((IntKind.u64.wrap ((mz.toNat:Int).tmod 128))*2^(min (IntKind.i64.wrap (7*(kP:Int))).toNat 64)))).tmod 2==1)then IntKind.i64.wrap (-1-IntKind.i64.wrap ((kQ .u64 qa (IntKind.u64.wrap ((IntKind.u64.wrap ((mz.toNat:Int).tmod 128))*2^(min (IntKind.i64.wrap (7*(kP:Int))).toNat 64)))).fdiv 2))else IntKind.i64.wrap ((kQ .u64 qa (IntKind.u64.wrap ((IntKind.u64.wrap ((mz.toNat:Int).tmod 128))*2^(min (IntKind.i64.wrap (7*(kP:Int))).toNat 64)))).fdiv 2)),(⟨r.s,IntKind.i64.wrap (IntKind.i64.wrap (r.at_+(kP:Int))+1),r.bad,r.made⟩:dH))else .bn (kQ .u64 qa (IntKind.u64.wrap ((IntKind.u64.wrap ((mz.toNat:Int).tmod 128))*2^(min (IntKind.i64.wrap (7*(kP:Int))).toNat 64))))))|none=>.bn p9))
def Eh(r:dH)(p9:Int):(Int × dH)⊕(Int):=bL (ny r) 0 10 p9
def de(r:dH):(Int × dH):=
 (bif((ga r) != 0)then(0,r)else(match(Eh r (0))with| .inl Ef=>Ef| .inr (qa)=>(0,r)))
def dh(r:dH)(n:Int):(Int × dH):=
 (bif((ga ((de r).2)) != 0)then(0,((de r).2))else(bif decide ((de r).1<0)then(0,(⟨((de r).2).s,((de r).2).at_,4,((de r).2).made⟩:dH))else(bif decide ((de r).1>(bif decide (n<0)then 0 else n))then(0,(⟨((de r).2).s,((de r).2).at_,3,((de r).2).made⟩:dH))else((de r).1,((de r).2)))))
def lu(r:dH)(n:Int):(ByteArray × dH):=
 (bif((ga ((dh r n).2)) != 0)then(⟨#[]⟩,((dh r n).2))else(bif decide ((dh r n).1>IntKind.i64.wrap ((((((dh r n).2).s).size:Nat):Int)-((dh r n).2).at_))then(⟨#[]⟩,(⟨((dh r n).2).s,((dh r n).2).at_,5,((dh r n).2).made⟩:dH))else((((dh r n).2).s).extract ((((dh r n).2).at_).toNat) ((((dh r n).2).at_+(dh r n).1).toNat),(⟨((dh r n).2).s,IntKind.i64.wrap (((dh r n).2).at_+(dh r n).1),((dh r n).2).bad,((dh r n).2).made⟩:dH))))
def mA(r:dH):bI:=(bif((de r).1==4)then(⟨(de r).1,0,(lu ((de r).2) 60).1⟩:bI)else(⟨(de r).1,0,⟨#[]⟩⟩:bI))
def s6(r:dH):dH:=(bif((de r).1==4)then((lu ((de r).2) 60).2)else((de r).2))
def o9(r:dH):dH:=(bif(decide ((mA r).kind≥1)&&decide ((mA r).kind≤3))then((de (s6 r)).2)else(s6 r))
def s7(r:dH):bI:=(bif(decide ((mA r).kind≥1)&&decide ((mA r).kind≤3))then(⟨(mA r).kind,(de (s6 r)).1,(mA r).s⟩:bI)else(mA r))
def xx(r:dH)(e:Int):(dH):=
 (bif((ga r)==0)then(⟨r.s,r.at_,e,r.made⟩:dH)else r)
def s8(r:dH):dH:=(bif(((ga (o9 r))==0)&&(rF (s7 r) != 0))then(xx (o9 r) 4)else(o9 r))
def vb(r:dH):(bI × dH):=
 (bif((ga (s8 r)) != 0)then((⟨0,0,⟨#[]⟩⟩:bI),(s8 r))else((s7 r),(s8 r)))
def Ax(r:dH):(Int):=
 (bif((ga r) != 0)then(ga r)else(bif decide (r.at_<(r.s.size:Int))then 23 else 0))
def Ly(s:ByteArray):Rd:=(⟨s,0,true⟩:Rd)
def Lz(s:ByteArray):dH:=(⟨s,0,0,true⟩:dH)
def jl(r:dH):Prop:=0≤r.at_∧r.at_≤(r.s.size:Int)∧r.s.size≤4611686018427387904
open Classical in
theorem Ay{a:Int}(h:(a != 0)=false):a=0:=by simpa using h
theorem TD{α:Type}{p q:Prop}[Decidable p][Decidable q]{a b:α}(h:p↔q):(if p then a else b)=if q then a else b:=by
 by_cases ak:p
 ·rw[if_pos ak,if_pos (h.1 ak)]
 ·rw[if_neg ak,if_neg fun aL=>ak (h.2 aL)]
theorem LA{α:Type}{p q:Prop}[Decidable p][Decidable q]{a b:α}(h:p↔¬q):(if p then a else b)=if q then b else a:=by
 by_cases aL:q
 ·rw[if_pos aL,if_neg fun ak=>h.1 ak aL]
 ·rw[if_neg aL,if_pos (h.2 aL)]
theorem LB(v:bI):kl v=rF v:=by
 unfold kl rF xw
 simp only[cond_eq_ite]
 by_cases aU:v.kind=0
 ·simp[aU]
  apply LA;omega
 by_cases aS:v.kind=4
 ·simp[aS]
  apply LA;omega
 by_cases aa:v.kind=1
 ·simp[aa]
  apply TD;omega
 by_cases ad:v.kind=2
 ·simp[ad]
 by_cases aq:v.kind=3
 ·simp[aq]
 ·simp[aU,aa,ad,aq,aS]
end Go.aM
namespace Go.aM
open Go Go.aM Go.ed
def kR:Nat→Nat→List Nat
 |0,u=>[u]
 |f+1,u=>if u<128 then[u]else(u%128+128)::kR f (u/ 128)
def gA(n:Int):Nat:=if 0≤n then(2*n).toNat else(-2*n-1).toNat
def xy(u:Nat):Int:=if u%2=0 then((u/ 2:Nat):Int)else -1-((u/ 2:Nat):Int)
def di(n:Int):Prop:= -9223372036854775808≤n∧n<9223372036854775808
theorem qb{n:Int}(h:di n):gA n<18446744073709551616:=by
 unfold di at h
 unfold gA
 split<;>omega
theorem rH(n:Int):IntKind.u64.wrap n=n%18446744073709551616:=by simp[IntKind.wrap,IntKind.bits,IntKind.signed]
theorem Ei(a b:Nat)(aI:a<18446744073709551616)(ae:b<18446744073709551616):jk .u64 (a:Int) (b:Int)=((a ^^^ b:Nat):Int):=u64_xor_nat a b aI ae
theorem TE(a b:Nat)(aI:a<18446744073709551616)(ae:b<18446744073709551616):kQ .u64 (a:Int) (b:Int)=((a ||| b:Nat):Int):=u64_or_nat a b aI ae
theorem TF(a b:Nat)(aI:a<18446744073709551616)(ae:b<18446744073709551616):lr .u64 (a:Int) (b:Int)=((a &&& b:Nat):Int):=u64_and_nat a b aI ae
theorem TG(a b:Nat)(aI:a<256)(ae:b<256):kQ .u8 (a:Int) (b:Int)=((a ||| b:Nat):Int):=u8_or_nat a b aI ae
theorem LC(a b:Nat)(aI:a<256)(ae:b<256):lr .u8 (a:Int) (b:Int)=((a &&& b:Nat):Int):=u8_and_nat a b aI ae
theorem LD(a:Nat)(aI:a<18446744073709551616):a ^^^ 18446744073709551615=18446744073709551615-a:=by
 have h:(BitVec.ofNat 64 a ^^^ BitVec.allOnes 64)= ~~~(BitVec.ofNat 64 a):=by rw[BitVec.xor_allOnes]
 have ad:=congrArg BitVec.toNat h
 rw[BitVec.toNat_not,BitVec.toNat_xor,BitVec.toNat_ofNat,BitVec.toNat_allOnes,Nat.mod_eq_of_lt aI]at ad
 exact ad
theorem TH{n:Int}(h:di n):jk .u64 (IntKind.u64.wrap (IntKind.u64.wrap n*2)) (IntKind.u64.wrap (n.fdiv 9223372036854775808))=((gA n:Nat):Int):=by
 obtain⟨aa,ad⟩:=h
 rw[rH,rH,rH,Int.fdiv_eq_ediv_of_nonneg _ (by decide)]
 by_cases hn:0≤n
 ·have aA:n%18446744073709551616*2%18446744073709551616=((gA n:Nat):Int):=by unfold gA;rw[if_pos hn];omega
  have aW:n/ 9223372036854775808%18446744073709551616=((0:Nat):Int):=by omega
  rw[aA,aW,Ei _ _ (qb ⟨aa,ad⟩) (by decide),Nat.xor_zero]
 ·have aA:n%18446744073709551616*2%18446744073709551616=((18446744073709551615-gA n:Nat):Int):=by unfold gA;rw[if_neg hn];omega
  have aW:n/ 9223372036854775808%18446744073709551616=((18446744073709551615:Nat):Int):=by omega
  have bu:=qb ⟨aa,ad⟩
  rw[aA,aW,Ei _ _ (by omega) (by decide),LD _ (by omega)]
  omega
theorem LF{n:Int}(h:di n):(bif decide (n<0)then jk .u64 18446744073709551615 (IntKind.u64.wrap (IntKind.u64.wrap n*2))else IntKind.u64.wrap (IntKind.u64.wrap n*2))=((gA n:Nat):Int):=by
 obtain⟨aa,ad⟩:=h
 rw[rH,rH]
 by_cases hn:0≤n
 ·have lY:decide (n<0)=false:=decide_eq_false (by omega)
  rw[lY];show n%18446744073709551616*2%18446744073709551616=((gA n:Nat):Int);unfold gA;rw[if_pos hn];omega
 ·have lY:decide (n<0)=true:=decide_eq_true (by omega)
  have aA:n%18446744073709551616*2%18446744073709551616=((18446744073709551615-gA n:Nat):Int):=by unfold gA;rw[if_neg hn];omega
  have bu:=qb ⟨aa,ad⟩
  rw[lY,cond_true,aA,show(18446744073709551615:Int)=((18446744073709551615:Nat):Int)from rfl,Ei _ _ (by decide) (by omega),Nat.xor_comm,LD _ (by omega)]
  omega
theorem TI: ∀a,a<256→a ||| 128=a%128+128:=by decide+kernel
theorem TJ(u:Nat):kQ .u8 (IntKind.u8.wrap (u:Int)) 128=((u%128+128:Nat):Int):=by
 have e:IntKind.u8.wrap (u:Int)=((u%256:Nat):Int):=by rw[IntKind.wrap_u8'];omega
 rw[e,show(128:Int)=((128:Nat):Int)from rfl,TG _ _ (by omega) (by decide),TI _ (by omega)]
 omega
theorem TK(u:Nat):IntKind.u8.wrap (IntKind.u8.wrap ((u:Int).tmod 128)+128)=((u%128+128:Nat):Int):=by
 rw[Int.tmod_eq_emod_of_nonneg (by omega),IntKind.wrap_u8',IntKind.wrap_u8']
 omega
theorem LG{R A:Type}{b:A→Step R A}{f:Nat}{x y:A}(h:b x= .b8 y):b4 b (f+1) x= .inr y:=by
 unfold b4
 rw[h]
theorem LH{R A:Type}{b:A→Step R A}{f:Nat}{x y:A}(h:b x= .bn y):b4 b (f+1) x=b4 b f y:=by
 conv=>lhs;unfold b4
 rw[h]
def km(u:Nat):ByteArray:=bytesOf ((kR 9 u).map fun b:Nat=>(b:Int))
theorem LI: ∀(l:List Int) (s:ByteArray),(l.foldl (fun r n=>r.push (UInt8.ofNat n.toNat)) s).data.toList=s.data.toList++l.map fun n=>UInt8.ofNat n.toNat
 |[],s=>by simp
 |n::l,s=>by
  rw[List.foldl_cons,LI l,ByteArray.data_push,Array.toList_push,List.map_cons,List.append_assoc,List.singleton_append]
theorem Az(l:List Int):(bytesOf l).data.toList=l.map fun n=>UInt8.ofNat n.toNat:=by
 unfold bytesOf
 rw[LI]
 rfl
theorem vc(l:List Int):(bytesOf l).size=l.length:=by
 have h:=congrArg List.length (Az l)
 rw[List.length_map,Array.length_toList]at h
 exact h
theorem mB{a b:ByteArray}(h:a.data.toList=b.data.toList):a=b:=ByteArray.ext (Array.toList_inj.1 h)
def xz(l:List Nat):List UInt8:=l.map UInt8.ofNat
theorem TL(u:Nat):(km u).data.toList=xz (kR 9 u):=by
 unfold km xz
 rw[Az,List.map_map]
 rfl
theorem TM(f u:Nat):(kR f u).length≤f+1:=by
 induction f generalizing u with
 |zero=>exact Nat.le_refl _
 |succ f aR=>
  unfold kR
  split
  ·simp
  ·have:=aR (u/ 128)
   simp only[List.length_cons];omega
theorem LJ(u:Nat):(km u).size=(kR 9 u).length:=by
 unfold km
 rw[vc,List.length_map]
theorem Ej(k:Nat):128^k=2^(7*k):=by rw[Nat.pow_mul]
theorem LK{k acc c:Nat}(aj:k≤9)(hc:c<256)(aI:acc<128^k)(hd:c%128*128^k<18446744073709551616):
 kQ .u64 (acc:Int) (IntKind.u64.wrap ((IntKind.u64.wrap (lr .u8 (c:Int) 127))*2^(min (IntKind.i64.wrap (7*(k:Int))).toNat 64)))=((acc+c%128*128^k:Nat):Int):=by
 have aA:lr .u8 (c:Int) 127=((c%128:Nat):Int):=by
  rw[show(127:Int)=((127:Nat):Int)from rfl,LC _ _ hc (by decide),nat_mask7]
 have aW:min (IntKind.i64.wrap (7*(k:Int))).toNat 64=7*k:=by
  rw[c4 _ (by omega) (by omega)]
  omega
 have cr:IntKind.u64.wrap ((c%128:Nat):Int)=((c%128:Nat):Int):=by rw[rH];omega
 have eD:(((c%128:Nat):Int)*2^(7*k))=((c%128*128^k:Nat):Int):=by
  rw[Ej];push_cast;rfl
 have ak:128^k≤128^9:=Nat.pow_le_pow_right (by decide) aj
 rw[aA,aW,cr,eD,rH]
 have n7:((c%128*128^k:Nat):Int)%18446744073709551616=((c%128*128^k:Nat):Int):=by omega
 rw[n7,TE _ _ (by(have:(128:Nat)^9=9223372036854775808:=(by decide));omega) hd]
 rw[Nat.or_comm,nat_join (7*k) _ _ (by rw[Ej];exact Nat.mul_mod_left _ _) (by rw[←Ej];exact aI),Nat.add_comm]
theorem Ek(e:UInt8):e.toNat<256:=e.toNat_lt
theorem LL{s:ByteArray}{k:Nat}{e:UInt8}{acc:Nat}(he:s.data.toList[k]? =some e)(aj:k≤9)(aI:acc<128^k):p8 s k (acc:Int)=
 if(0<k∧e.toNat=0)∨(k=9∧1<e.toNat)then .ret (0,0,4)else if e.toNat<128 then .ret (((acc+e.toNat%128*128^k:Nat):Int),((k+1:Nat):Int),0)else .bn ((acc+e.toNat%128*128^k:Nat):Int):=by
 have hu:=Ek e
 unfold p8
 dsimp only
 rw[he]
 dsimp only
 rw[cond_eq_ite]
 by_cases aa:(0<k∧e.toNat=0)∨(k=9∧1<e.toNat)
 ·rw[if_pos aa,if_pos]
  simp only[Bool.or_eq_true,Bool.and_eq_true,decide_eq_true_eq,beq_iff_eq];omega
 ·have hd:e.toNat%128*128^k<18446744073709551616:=by
   rcases Nat.lt_or_ge k 9 with ik|ik
   ·have ak:128^k≤128^8:=Nat.pow_le_pow_right (by decide) (by omega)
    have:e.toNat%128*128^k≤127*128^8:=Nat.mul_le_mul (by omega) ak
    exact Nat.lt_of_le_of_lt this (by decide)
   ·have xA:k=9:=by omega
    subst xA
    have:e.toNat%128*128^9≤1*128^9:=Nat.mul_le_mul (by omega) (Nat.le_refl _)
    exact Nat.lt_of_le_of_lt this (by decide)
  rw[if_neg aa,if_neg (by
   simp only[Bool.or_eq_true,Bool.and_eq_true,decide_eq_true_eq,beq_iff_eq]
   omega),LK aj hu aI hd,cond_eq_ite]
  by_cases ad:e.toNat<128
  ·rw[if_pos ad,if_pos (by rw[decide_eq_true_eq];omega)]
  ·rw[if_neg ad,if_neg (by rw[decide_eq_true_eq];omega)]
theorem LM{s:ByteArray}: ∀(m k acc:Nat) (U N:Int),k+m=s.size→acc<128^k→k≤9→bL (p8 s) k m (acc:Int)= .inl (U,N,0)→
 ∃(u:Nat) (t:List UInt8),U=((acc+u*128^k:Nat):Int)∧s.data.toList.drop k=xz (kR (9-k) u)++t∧N=((k+(kR (9-k) u).length:Nat):Int)∧(0<k→0<u)∧acc+u*128^k<18446744073709551616
 |0,k,acc,U,N,_,_,_,h=>by simp[bL]at h
 |m+1,k,acc,U,N,ag,aI,aj,h=>by
  have bB:k<s.data.toList.length:=by
   have:s.data.toList.length=s.size:=rfl
   omega
  obtain⟨e,he⟩: ∃e,s.data.toList[k]? =some e:=⟨_,List.getElem?_eq_getElem bB⟩
  have LN:s.data.toList.drop k=e::s.data.toList.drop (k+1):=by
   rw[List.drop_eq_getElem_cons bB]
   congr 1
   rw[List.getElem?_eq_getElem bB]at he
   exact Option.some.inj he
  have zdv:=Ek e
  have LO:128^(k+1)=128*128^k:=by rw[Nat.pow_succ,Nat.mul_comm]
  have zdw:128^k≤128^9:=Nat.pow_le_pow_right (by decide) aj
  have TN:(128:Nat)^9=9223372036854775808:=by decide
  unfold bL at h;rw[LL he aj aI]at h
  split at h
  ·rename_i r af
   split at af
   ·cases af;cases h
   ·rename_i aL
    split at af
    ·rename_i hc
     cases af;simp only[Sum.inl.injEq,Prod.mk.injEq]at h;obtain⟨rfl,rfl,_⟩:=h
     have av:kR (9-k) e.toNat=[e.toNat]:=by
      rcases Nat.lt_or_ge k 9 with ik|ik
      ·obtain⟨f,hf⟩: ∃f,9-k=f+1:=⟨8-k,by omega⟩
       rw[hf];unfold kR;rw[if_pos hc]
      ·rw[show 9-k=0 by omega];rfl
     have s9:acc+e.toNat*128^k<18446744073709551616:=by
      rcases Nat.lt_or_ge k 9 with ik|ik
      ·have ak:128^k≤128^8:=Nat.pow_le_pow_right (by decide) (by omega)
       have ad:e.toNat*128^k≤127*128^8:=Nat.mul_le_mul (by omega) ak
       have xB:127*(128:Nat)^8=9151314442816847872:=by decide
       omega
      ·have xA:k=9:=by omega
       subst xA
       have:e.toNat*128^9≤1*128^9:=Nat.mul_le_mul (by omega) (Nat.le_refl _)
       omega
     refine⟨e.toNat,s.data.toList.drop (k+1),by rw[Nat.mod_eq_of_lt hc],?_,by rw[av];rfl,fun aU=>by omega,s9⟩
     rw[av,LN];simp[xz]
    ·cases af
  ·rename_i a af
   split at af
   ·cases af
   ·split at af<;>cases af
  ·rename_i a af
   split at af
   ·cases af
   ·rename_i aL
    split at af
    ·cases af
    ·rename_i hc
     cases af
     have LP:k≤8:=by
      rcases Nat.lt_or_ge k 9 with ik|ik
      ·omega
      ·exact absurd (Or.inr ⟨by omega,by omega⟩) aL
     have xC:acc+e.toNat%128*128^k<128^(k+1):=by
      have:e.toNat%128*128^k≤127*128^k:=Nat.mul_le_mul (by omega) (Nat.le_refl _)
      omega
     obtain⟨u,t,aa,ad,aq,aS,bC⟩:=LM m (k+1) (acc+e.toNat%128*128^k) U N (by omega) xC (by omega) h
     have zdx:=aS (by omega)
     have xD:acc+e.toNat%128*128^k+u*128^(k+1)=acc+(e.toNat%128+u*128)*128^k:=by
      rw[LO,Nat.add_mul,Nat.add_assoc,Nat.mul_assoc]
     have av:kR (9-k) (e.toNat%128+u*128)=e.toNat::kR (9-(k+1)) u:=by
      rw[show 9-k=(9-(k+1))+1 by omega]
      conv=>lhs;unfold kR
      rw[if_neg (by omega)]
      congr 1
      ·omega
      ·congr 1
       omega
     refine⟨e.toNat%128+u*128,t,by rw[aa,xD],?_,?_,fun _=>by omega,by rw[←xD];exact bC⟩
     ·rw[av,LN,ad]
      simp[xz]
     ·rw[av,aq,List.length_cons]
      congr 1
      omega
theorem LQ{s:ByteArray}{U N:Int}(h:jF s=(U,N,0)): ∃(u:Nat) (t:ByteArray),U=(u:Int)∧s=km u++t∧N=(((km u).size:Nat):Int)∧u<18446744073709551616:=by
 unfold jF at h
 split at h
 ·rename_i r af
  subst h;unfold xv at af;obtain⟨u,t,aa,ad,aq,_,bC⟩:=LM s.size 0 0 U N (by omega) (by decide) (by decide) af
  refine⟨u,⟨t.toArray⟩,by rw[aa];simp,mB ?_,by rw[aq,LJ];simp,by omega⟩
  rw[ByteArray.data_append,Array.toList_append,TL];simpa using ad
 ·simp at h
theorem TO(k:IntKind)(a b:Int):jk k a b=jk k b a:=by
 unfold jk
 rw[BitVec.xor_comm]
theorem TP(a:Nat)(h:a<9223372036854775808):jk .i64 (a:Int) 0=(a:Int):=by
 unfold jk
 have e:BitVec.ofInt IntKind.i64.bits (0:Int)=0#_:=rfl
 rw[e,BitVec.xor_zero]
 have:(BitVec.ofInt 64 (a:Int)).toNat=a:=ofInt_u64 a (by omega)
 show IntKind.i64.wrap (((BitVec.ofInt 64 (a:Int)).toNat:Nat):Int)=_
 rw[this,c4 _ (by omega) (by omega)]
theorem TQ(a:Nat)(h:a<9223372036854775808):jk .i64 (a:Int) (-1)= -1-(a:Int):=by
 rw[TO]
 exact i64_not a h
theorem TR{u:Nat}(h:u<18446744073709551616):jk .i64 (IntKind.i64.wrap ((u:Int).fdiv 2)) (IntKind.i64.wrap (0-IntKind.i64.wrap (lr .u64 (u:Int) 1)))=xy u:=by
 have aA:IntKind.i64.wrap ((u:Int).fdiv 2)=((u/ 2:Nat):Int):=by
  rw[Int.fdiv_eq_ediv_of_nonneg _ (by decide),c4 _ (by omega) (by omega)]
  omega
 have aW:lr .u64 (u:Int) 1=((u%2:Nat):Int):=by
  rw[show(1:Int)=((1:Nat):Int)from rfl,TF _ _ h (by decide),nat_mask1]
 rw[aA,aW]
 unfold xy
 split
 ·rename_i aU
  rw[aU];exact TP _ (by omega)
 ·rename_i aU
  rw[show u%2=1 by omega]
  exact TQ _ (by omega)
theorem TS{r:Rd}(h:jG r≠0):cW r=(0,r):=by
 unfold cW
 rw[show(jG r != 0)=true by simpa using h]
 rfl
end Go.aM
namespace Go.aM
open Go Go.aM Go.ed
theorem xE{v:bI}(h:kl v=0):v.s.size≤60:=by
 unfold kl at h
 simp only[cond_eq_ite]at h
 repeat' split at h
 all_goals first
  |(cases h;done)
  |(rename_i aL _;simp at aL;omega)
  |(rename_i aL;simp at aL;omega)
theorem TT{a b:ByteArray}:bq a b=true↔a=b:=by rw[El];simp
theorem Em{v:bI}(h:kl v=0):(v.kind=0∧v.n=0∧v.s=⟨#[]⟩)∨((v.kind=1∨v.kind=2∨v.kind=3)∧v.s=⟨#[]⟩∧ -1099511627776≤v.n∧v.n≤1099511627776)∨(v.kind=4∧v.n=0∧v.s.size≤60):=by
 have bK:=xE h
 unfold kl at h
 cases cX:(((v.kind==0)||(v.kind==4))||((v.kind==1)||((v.kind==2)||(v.kind==3))))with
 |false=>rw[cX]at h;cases h
 |true=>
  rw[cX]at h
  cases gb:(bif((v.kind==0)||(v.kind==4))then(v.n==0)else(bif(v.kind==1)then((v.n==0)||(v.n==1))else(bif(v.kind==2)then xw v.n else(decide (v.n≥0)&&decide (v.n≤63)))))with
  |false=>rw[gb]at h;cases h
  |true=>
   rw[gb]at h;simp only[cond_true,Bool.not_true,cond_false]at h;simp only[cond_eq_ite]at h
   split at h
   ·cases h
   ·split at h
    ·cases h
    ·rename_i aq
     have ag:v.kind≠4→v.s=⟨#[]⟩:=fun aj=>by
      simp only[Bool.and_eq_true,bne_iff_ne,ne_eq,not_and,Decidable.not_not,Bool.not_eq_true']at aq
      cases aL:bq v.s ⟨#[]⟩with
      |true=>exact TT.1 aL
      |false=>exact absurd (aq aL) aj
     simp only[Bool.or_eq_true,beq_iff_eq]at cX
     rcases cX with (aU|aS)|aa|ad|aq
     ·exact .inl ⟨aU,by simpa[aU]using gb,ag (by omega)⟩
     ·exact .inr (.inr ⟨aS,by simpa[aS]using gb,bK⟩)
     ·refine .inr (.inl ⟨.inl aa,ag (by omega),?_⟩)
      simp[aa]at gb;omega
     ·refine .inr (.inl ⟨.inr (.inl ad),ag (by omega),?_⟩)
      simp[ad,xw]at gb;omega
     ·refine .inr (.inl ⟨.inr (.inr aq),ag (by omega),?_⟩)
      simp[aq]at gb;omega
def pa(r:Rd):bI × Rd:=
 if(cW r).1=1∨(cW r).1=2∨(cW r).1=3 then(⟨(cW r).1,(cW (cW r).2).1,⟨#[]⟩⟩,(cW (cW r).2).2)
 else if(cW r).1=4 then(⟨(cW r).1,0,(iF (cW r).2 60).1⟩,(iF (cW r).2 60).2)else(⟨(cW r).1,0,⟨#[]⟩⟩,(cW r).2)
theorem En(r:Rd):s4 r=(pa r).1∧s5 r=(pa r).2:=by
 unfold s4 s5 pa
 simp only[cond_eq_ite,Bool.or_eq_true,beq_iff_eq]
 split
 ·exact⟨rfl,rfl⟩
 ·split<;>exact⟨rfl,rfl⟩
end Go.aM
namespace Go.aM
open Go Go.aM Go.ed
theorem AA{r:dH}(h:jl r):jl (de r).2:=by
 unfold de
 cases (ga r != 0)with
 |true=>exact h
 |false=>
  simp only[cond_false]
  split
  ·rename_i q aL
   have key: ∀(m k:Nat) (a:Int) (q:Int × dH),k+m≤10→bL (ny r) k m a= .inl q→jl q.2:=by
    intro m
    induction m with
    |zero=>intro k a r _ h;simp[bL]at h
    |succ m aR=>
     intro k a q aj ao;unfold bL at ao
     split at ao
     ·rename_i gB ae
      simp only[Sum.inl.injEq]at ao;subst ao;obtain⟨aa,ad,aq⟩:=h;unfold ny at ae;simp only[cond_eq_ite,decide_eq_true_eq]at ae
      have cq:IntKind.i64.wrap (r.at_+(k:Int))=r.at_+(k:Int):=c4 _ (by omega) (by omega)
      rw[cq]at ae
      split at ae
      ·cases ae;exact⟨aa,ad,aq⟩
      ·rename_i bB
       have cy:IntKind.i64.wrap (r.at_+(k:Int)+1)=r.at_+(k:Int)+1:=c4 _ (by omega) (by omega)
       rw[cy]at ae
       split at ae
       ·split at ae
        ·cases ae;exact⟨aa,ad,aq⟩
        ·split at ae
         ·cases ae;exact⟨by first|omega|(dsimp only;omega),by first|omega|(dsimp only;omega),aq⟩
         ·cases ae
       ·cases ae
     ·cases ao
     ·exact aR _ _ _ (by omega) ao
   exact key _ _ _ _ (by omega) aL
  ·exact h
theorem AB(r:dH)(n:Int):0≤(dh r n).1:=by
 unfold dh
 cases cX:(ga ((de r).2) != 0)with
 |true=>exact Int.le_refl _
 |false=>
  simp only[cond_false]
  cases gb:decide ((de r).1<0)with
  |true=>exact Int.le_refl _
  |false=>
   have gb:=of_decide_eq_false gb
   simp only[cond_false,cond_eq_ite]
   repeat' split
   all_goals first|exact Int.le_refl _|omega|(dsimp only;omega)
theorem Eo{r:dH}{n:Int}(h:jl r):jl (dh r n).2:=by
 have h:=AA h
 unfold dh
 simp only[cond_eq_ite]
 repeat' split
 all_goals exact h
theorem Ep{r:dH}{n:Int}(h:jl r):jl (lu r n).2:=by
 have h:=Eo (n:=n) h
 have hn:=AB r n
 unfold lu
 generalize hc:dh r n=c at*
 obtain⟨aa,ad,aq⟩:=h
 have cq:IntKind.i64.wrap ((c.2.s.size:Int)-c.2.at_)=(c.2.s.size:Int)-c.2.at_:=c4 _ (by omega) (by omega)
 rw[cq]
 simp only[cond_eq_ite,decide_eq_true_eq]
 repeat' split
 ·exact⟨aa,ad,aq⟩
 ·exact⟨aa,ad,aq⟩
 ·have cy:IntKind.i64.wrap (c.2.at_+c.1)=c.2.at_+c.1:=c4 _ (by omega) (by omega)
  rw[cy];exact⟨by first|omega|(dsimp only;omega),by first|omega|(dsimp only;omega),aq⟩
theorem qc(s:ByteArray)(n:Nat):(s.extract n s.size).data.toList=s.data.toList.drop n:=by
 rw[ByteArray.data_extract,Array.toList_extract]
 have ag:s.size=s.data.toList.length:=rfl
 rw[ag]
 simp[List.extract]
 rw[List.take_of_length_le (l:=List.drop n s.data.toList) (by rw[List.length_drop];exact Nat.le_refl _)]
theorem LR(s:ByteArray)(n j:Nat):(s.extract n s.size).extract j (s.extract n s.size).size=s.extract (n+j) s.size:=mB (by
 rw[qc,qc,qc,List.drop_drop])
def il(r:Rd)(q:dH):Prop:=jl q∧r=⟨q.s.extract q.at_.toNat q.s.size,q.bad,q.made⟩
theorem rI{r:Rd}{q:dH}(h:il r q):jG r=ga q:=by
 rw[h.2]
 rfl
theorem TU{q:dH}(an:jl q){k acc:Nat}(aj:k≤9)(aI:acc<128^k){e:UInt8}(he:(q.s.extract q.at_.toNat q.s.size).data.toList[k]? =some e):ny q k (acc:Int)=
 if(0<k∧e.toNat=0)∨(k=9∧1<e.toNat)then .ret (0,⟨q.s,q.at_,4,q.made⟩)else if e.toNat<128 then .ret (xy (acc+e.toNat%128*128^k),⟨q.s,q.at_+((k+1:Nat):Int),q.bad,q.made⟩)else .bn ((acc+e.toNat%128*128^k:Nat):Int):=by
 obtain⟨aa,ad,aq⟩:=an
 have hu:=Ek e
 rw[qc,List.getElem?_drop]at he
 have bB:q.at_.toNat+k<q.s.size:=(List.getElem?_eq_some_iff.1 he).1
 have cq:IntKind.i64.wrap (q.at_+(k:Int))=q.at_+(k:Int):=c4 _ (by omega) (by omega)
 have cy:IntKind.i64.wrap (q.at_+(k:Int)+1)=q.at_+((k+1:Nat):Int):=by rw[c4 _ (by omega) (by omega)];omega
 have im:(q.at_+(k:Int)).toNat=q.at_.toNat+k:=by omega
 unfold ny
 dsimp only
 rw[cq,decide_eq_false (show ¬q.at_+(k:Int)≥(q.s.size:Int)by omega),cond_false,im,he]
 dsimp only
 rw[cy]
 have vd:(e.toNat:Int).tmod 128=lr .u8 (e.toNat:Int) 127:=by
  rw[show(127:Int)=((127:Nat):Int)from rfl,LC _ _ hu (by decide),nat_mask7,Int.tmod_eq_emod_of_nonneg (by omega)]
  omega
 rw[vd,cond_eq_ite]
 by_cases aa:(0<k∧e.toNat=0)∨(k=9∧1<e.toNat)
 ·rw[if_pos aa,if_pos]
  simp only[Bool.or_eq_true,Bool.and_eq_true,decide_eq_true_eq,beq_iff_eq];omega
 ·have hd:e.toNat%128*128^k<9223372036854775808*2∧acc+e.toNat%128*128^k<18446744073709551616:=by
   rcases Nat.lt_or_ge k 9 with ik|ik
   ·have ak:128^k≤128^8:=Nat.pow_le_pow_right (by decide) (by omega)
    have:e.toNat%128*128^k≤127*128^8:=Nat.mul_le_mul (by omega) ak
    have xB:(128:Nat)^8=72057594037927936:=by decide
    omega
   ·have xA:k=9:=by omega
    subst xA
    have:e.toNat%128*128^9≤1*128^9:=Nat.mul_le_mul (by omega) (Nat.le_refl _)
    have TN:(128:Nat)^9=9223372036854775808:=by decide
    omega
  rw[if_neg aa,if_neg (by
   simp only[Bool.or_eq_true,Bool.and_eq_true,decide_eq_true_eq,beq_iff_eq]
   omega),LK aj hu aI (by omega),cond_eq_ite]
  by_cases ad:e.toNat<128
  ·rw[if_pos ad,if_pos (by rw[decide_eq_true_eq];omega)]
   generalize acc+e.toNat%128*128^k=Z at*
   have v1:IntKind.i64.wrap ((Z:Int).fdiv 2)=((Z/ 2:Nat):Int):=by
    rw[Int.fdiv_eq_ediv_of_nonneg _ (by decide),c4 _ (by omega) (by omega)]
    omega
   have v2:(Z:Int).tmod 2=((Z%2:Nat):Int):=by rw[Int.tmod_eq_emod_of_nonneg (by omega)];omega
   rw[v1,v2];unfold xy
   by_cases aU:Z%2=0
   ·rw[if_pos aU,aU]
    rfl
   ·rw[if_neg aU,show Z%2=1 by omega,c4 _ (by omega) (by omega)]
    rfl
  ·rw[if_neg ad,if_neg (by rw[decide_eq_true_eq];omega)]
theorem TV{q:dH}(an:jl q){k:Nat}{acc:Int}(aj:k≤9)(he:q.s.size≤q.at_.toNat+k):ny q k acc= .ret (0,⟨q.s,q.at_,5,q.made⟩):=by
 obtain⟨aa,ad,aq⟩:=an
 have cq:IntKind.i64.wrap (q.at_+(k:Int))=q.at_+(k:Int):=c4 _ (by omega) (by omega)
 unfold ny
 dsimp only
 rw[cq,decide_eq_true (show q.at_+(k:Int)≥(q.s.size:Int)by omega)]
 rfl
theorem LS{q:dH}(an:jl q): ∀(m k acc:Nat),k+m=10→k≤9→acc<128^k→k≤(q.s.extract q.at_.toNat q.s.size).size→
 bL (ny q) k m (acc:Int)=match bL (p8 (q.s.extract q.at_.toNat q.s.size)) k ((q.s.extract q.at_.toNat q.s.size).size-k) (acc:Int)with
  | .inl (U,N,E)=>if E=0 then .inl (xy U.toNat,⟨q.s,q.at_+N,q.bad,q.made⟩)else .inl (0,⟨q.s,q.at_,E,q.made⟩)
  | .inr _=>.inl (0,⟨q.s,q.at_,5,q.made⟩)
 |0,k,acc,hm,aj,_,_=>by omega
 |m+1,k,acc,hm,aj,aI,bK=>by
  have zdy:(q.s.extract q.at_.toNat q.s.size).size=q.s.size-q.at_.toNat:=by rw[ByteArray.size_extract];omega
  rcases Nat.lt_or_ge k (q.s.extract q.at_.toNat q.s.size).size with bB|hY
  ·obtain⟨e,he⟩: ∃e,(q.s.extract q.at_.toNat q.s.size).data.toList[k]? =some e:=⟨_,List.getElem?_eq_getElem (by exact bB)⟩
   have ak:0<128^k:=Nat.pow_pos (by decide)
   obtain⟨j,ai⟩: ∃j,(q.s.extract q.at_.toNat q.s.size).size-k=j+1:=⟨(q.s.extract q.at_.toNat q.s.size).size-k-1,by omega⟩
   rw[ai];unfold bL;rw[TU an aj aI he,LL he aj aI]
   by_cases aa:(0<k∧e.toNat=0)∨(k=9∧1<e.toNat)
   ·rw[if_pos aa,if_pos aa]
    rfl
   ·rw[if_neg aa,if_neg aa]
    by_cases ad:e.toNat<128
    ·rw[if_pos ad,if_pos ad]
     dsimp only;rw[if_pos rfl,Int.toNat_natCast]
    ·rw[if_neg ad,if_neg ad]
     dsimp only
     have LO:128^(k+1)=128*128^k:=by rw[Nat.pow_succ,Nat.mul_comm]
     have xC:acc+e.toNat%128*128^k<128^(k+1):=by
      have:e.toNat%128*128^k≤127*128^k:=Nat.mul_le_mul (by omega) (Nat.le_refl _)
      omega
     have LP:k+1≤9:=by
      rcases Nat.lt_or_ge k 9 with ik|ik
      ·omega
      ·exact absurd (Or.inr ⟨by omega,by omega⟩) aa
     rw[LS an m (k+1) _ (by omega) LP xC (by omega),show(q.s.extract q.at_.toNat q.s.size).size-(k+1)=j by omega]
  ·rw[show(q.s.extract q.at_.toNat q.s.size).size-k=0 by omega]
   unfold bL;rw[TV an aj (by omega)]
def AD{α:Type}(R:Rd→α × Rd)(S:dH→α × dH):Prop:=∀r q,il r q→(R r).1=(S q).1∧il (R r).2 (S q).2
theorem TW{q:dH}(h:ga q≠0):de q=(0,q):=by
 unfold de
 rw[show(ga q != 0)=true by simpa using h]
 rfl
theorem ve:AD cW de:=by
 intro r q h
 have af:=h
 by_cases aU:ga q=0
 ·have hZ:=AA h.1
  have ak:=h.1
  obtain⟨an,rfl⟩:=h;unfold de Eh at hZ⊢;unfold cW;rw[rI af,aU];rw[aU]at hZ;simp only[bne_self_eq_false,cond_false]at hZ⊢
  have ao:=LS an 10 0 0 (by omega) (by omega) (by decide) (by omega)
  rw[Nat.sub_zero]at ao;rw[show((0:Nat):Int)=0 from rfl]at ao
  rw[ao]at hZ⊢;generalize ag:q.s.extract q.at_.toNat q.s.size=rest at*;unfold jF xv
  cases av:bL (p8 rest) 0 rest.size 0 with
  |inr a=>
   rw[av]at hZ;dsimp only at hZ⊢;exact⟨rfl,hZ,by rw[←ag];rfl⟩
  |inl p=>
   obtain⟨U,N,E⟩:=p;rw[av]at hZ;dsimp only at hZ⊢
   by_cases gd:E=0
   ·subst gd
    have TX:jF rest=(U,N,0):=by
     unfold jF xv;rw[av]
    obtain⟨u,t,rJ,aG,hg,hu⟩:=LQ TX;subst rJ hg;rw[if_pos rfl]at hZ⊢;dsimp only at hZ⊢
    have mC:rest.extract ((((km u).size:Nat):Int)).toNat rest.size=q.s.extract (q.at_+(((km u).size:Nat):Int)).toNat q.s.size:=by
     rw[←ag,LR,Int.toNat_natCast]
     have:=ak.1
     congr 1
     omega
    refine⟨?_,hZ,?_⟩
    ·show jk .i64 _ _=_
     rw[TR hu,Int.toNat_natCast]
    ·show(⟨rest.extract ((((km u).size:Nat):Int)).toNat rest.size,q.bad,q.made⟩:Rd)=_
     rw[mC]
   ·rw[if_neg gd]at hZ⊢
    rw[show(E != 0)=true by simpa using gd]
    exact⟨rfl,hZ,by rw[←ag];rfl⟩
 ·rw[TW aU,TS (by rw[rI h];exact aU)]
  exact⟨rfl,h⟩
theorem LU{r:Rd}{q:dH}(h:il r q):(r.rest.size:Int)=(q.s.size:Int)-q.at_:=by
 obtain⟨⟨aa,ad,aq⟩,rfl⟩:=h
 show(((q.s.extract q.at_.toNat q.s.size).size:Nat):Int)=_
 rw[ByteArray.size_extract]
 omega
theorem TY(n:Int):AD (fun r=>gq r n) (fun q=>dh q n):=by
 intro r q h
 obtain⟨aa,ad⟩:=ve r q h
 show(gq r n).1=(dh q n).1∧il (gq r n).2 (dh q n).2
 unfold gq dh
 rw[rI ad,aa]
 have hm:(if 0>n then(0:Int)else n)=bif decide (n<0)then 0 else n:=by
  rw[cond_eq_ite]
  by_cases hn:n<0
  ·rw[if_pos hn,if_pos (decide_eq_true hn)]
  ·rw[if_neg hn,if_neg (by simpa using hn)]
 rw[hm]
 have aj: ∀e:Int,il ⟨(cW r).2.rest,e,(cW r).2.made⟩ ⟨(de q).2.s,(de q).2.at_,e,(de q).2.made⟩:=fun e=>by
  obtain⟨an,af⟩:=ad;refine⟨an,?_⟩
  rw[af]
 cases (ga (de q).2 != 0)with
 |true=>exact⟨rfl,ad⟩
 |false=>
  simp only[cond_false]
  cases decide ((de q).1<0)with
  |true=>exact⟨rfl,aj 4⟩
  |false=>
   simp only[cond_false]
   cases decide ((de q).1>bif decide (n<0)then 0 else n)with
   |true=>exact⟨rfl,aj 3⟩
   |false=>exact⟨rfl,ad⟩
theorem TZ(s:ByteArray)(n j:Nat)(h:n+j≤s.size):(s.extract n s.size).extract 0 j=s.extract n (n+j):=mB (by
 rw[ByteArray.data_extract,Array.toList_extract,qc,ByteArray.data_extract,Array.toList_extract]
 have ag:s.size=s.data.toList.length:=rfl
 simp only[List.extract,List.drop_zero,Nat.sub_zero]
 rw[show n+j-n=j by omega])
theorem xF(n:Int):AD (fun r=>iF r n) (fun q=>lu q n):=by
 intro r q h
 obtain⟨aa,ad⟩:=TY n r q h
 have zdz:=AB q n
 show(iF r n).1=(lu q n).1∧il (iF r n).2 (lu q n).2
 have hZ:=Ep (n:=n) h.1
 unfold lu at hZ⊢
 unfold iF
 dsimp only at aa ad
 rw[rI ad,aa]
 have bK:=LU ad
 obtain⟨an,af⟩:=ad
 obtain⟨xG,Er,LV⟩:=an
 generalize dh q n=c at*
 rw[af]at bK⊢
 generalize hd:gq r n=d at*
 have cq:IntKind.i64.wrap ((c.2.s.size:Int)-c.2.at_)=(c.2.s.size:Int)-c.2.at_:=c4 _ (by omega) (by omega)
 rw[cq]at hZ⊢
 dsimp only at bK⊢
 rw[bK]
 cases gd:(ga c.2 != 0)with
 |true=>
  exact⟨rfl,⟨xG,Er,LV⟩,rfl⟩
 |false=>
  rw[gd]at hZ;simp only[cond_false]at hZ⊢
  by_cases ah:c.1>(c.2.s.size:Int)-c.2.at_
  ·rw[decide_eq_true ah]
   exact⟨rfl,⟨xG,Er,LV⟩,rfl⟩
  ·rw[decide_eq_false ah]at hZ⊢
   simp only[cond_false]at hZ⊢;refine⟨?_,hZ,?_⟩
   ·rw[TZ _ _ _ (by omega)]
    congr 1
    omega
   ·have cy:IntKind.i64.wrap (c.2.at_+c.1)=c.2.at_+c.1:=c4 _ (by omega) (by omega)
    rw[cy,LR]
    have:c.2.at_.toNat+c.1.toNat=(c.2.at_+c.1).toNat:=by omega
    rw[this]
theorem T0{r:Rd}{q:dH}(e:Int)(h:il r q):il (rE r e) (xx q e):=by
 unfold rE xx
 rw[rI h]
 cases (ga q==0)with
 |true=>exact⟨h.1,by rw[h.2];rfl⟩
 |false=>exact h
theorem T1:AD o8 vb:=by
 intro r q h
 obtain⟨aa,ad⟩:=ve r q h
 obtain⟨bD,a2⟩:=xF 60 _ _ ad
 obtain⟨eT,gK⟩:=ve _ _ ad
 dsimp only at bD a2
 have av:(pa r).1=s7 q∧il (pa r).2 (o9 q):=by
  have T2:(mA q).kind=(de q).1:=by
   unfold mA
   cases ((de q).1==4)<;>rfl
  unfold pa s7 o9;rw[T2,aa]
  by_cases aS:(de q).1=4
  ·rw[if_neg (by omega),if_pos aS,show(decide ((de q).1≥1)&&decide ((de q).1≤3))=false by rw[aS];rfl]
   simp only[cond_false];unfold mA s6;rw[show((de q).1==4)=true by simpa using aS]
   simp only[cond_true];exact⟨by rw[bD],a2⟩
  ·have aA:mA q=⟨(de q).1,0,⟨#[]⟩⟩:=by
    unfold mA;rw[show((de q).1==4)=false by simpa using aS]
    rfl
   have aW:s6 q=(de q).2:=by
    unfold s6;rw[show((de q).1==4)=false by simpa using aS]
    rfl
   rw[aA,aW]
   by_cases aq:(de q).1=1∨(de q).1=2∨(de q).1=3
   ·rw[if_pos aq,show(decide ((de q).1≥1)&&decide ((de q).1≤3))=true by simp;omega]
    simp only[cond_true];exact⟨by rw[eT],gK⟩
   ·rw[if_neg aq,if_neg aS,show(decide ((de q).1≥1)&&decide ((de q).1≤3))=false by simp;omega]
    exact⟨rfl,ad⟩
 obtain⟨v1,v2⟩:=av
 have bC:il (rG r) (s8 q):=by
  unfold rG s8;rw[(En r).1,(En r).2,v1,LB]
  by_cases gd:ga (o9 q)=0
  ·rw[show(ga (o9 q)==0)=true by simpa using gd]
   simp only[Bool.true_and]
   cases (rF (s7 q) != 0)with
   |true=>exact T0 4 v2
   |false=>exact v2
  ·rw[show(ga (o9 q)==0)=false by simpa using gd]
   simp only[Bool.false_and,cond_false]
   cases (rF (s7 q) != 0)with
   |true=>
    simp only[cond_true];unfold rE;rw[rI v2,show(ga (o9 q)==0)=false by simpa using gd]
    exact v2
   |false=>exact v2
 unfold o8 vb
 rw[rI bC,(En r).1,v1]
 cases (ga (s8 q) != 0)with
 |true=>exact⟨rfl,bC⟩
 |false=>exact⟨rfl,bC⟩
theorem T3{r:Rd}{q:dH}(h:il r q):o7 r=Ax q:=by
 have ag:=LU h
 unfold o7 Eg Ax
 rw[rI h]
 cases gd:(ga q != 0)with
 |true=>rfl
 |false=>
  have aU:ga q=0:=Ay gd
  simp only[cond_false];rw[ag,aU]
  by_cases ao:q.at_<(q.s.size:Int)
  ·rw[decide_eq_true ao,decide_eq_true (by omega)]
  ·rw[decide_eq_false ao,decide_eq_false (by omega)]
end Go.aM
namespace Go.aM
open Go Go.ed
theorem T4(u:Nat):ba .shr .u64 (u:Int) 7=((u/ 128:Nat):Int):=by
 show(u:Int).fdiv (2^(min (7:Int).toNat 64))=_
 rw[show(2:Int)^(min (7:Int).toNat 64)=128 from rfl,Int.fdiv_eq_ediv_of_nonneg _ (by decide)]
 omega
theorem T5{u:Nat}(h:u<18446744073709551616):ba .quo .u64 (u:Int) 128=((u/ 128:Nat):Int):=by
 show IntKind.u64.wrap ((u:Int).tdiv 128)=_
 rw[Int.tdiv_eq_ediv_of_nonneg (by omega),rH]
 omega
def ta(R:Type)(c:Int × List Int):Step R (Int × List Int):=
 bif decide (c.1≥128)then .bn (ba .shr .u64 c.1 7,List.append c.2 [ba .or .u8 (IntKind.wrap .u8 c.1) 128])else .b8 (c.1,c.2)
def tc(R:Type)(c:Int × List Int):Step R (Int × List Int):=
 bif decide (c.1≥128)then .bn (ba .quo .u64 c.1 128,List.append c.2 [IntKind.wrap .u8 (IntKind.wrap .u8 (ba .rem .u64 c.1 128)+128)])else .b8 (c.1,c.2)
theorem T6(R:Type){u:Nat}(acc:List Int)(h:u<128):ta R ((u:Int),acc)= .b8 ((u:Int),acc):=by
 unfold ta
 rw[show decide ((u:Int)≥128)=false from decide_eq_false (by omega)]
 rfl
theorem LW(R:Type){u:Nat}(acc:List Int)(h: ¬u<128):ta R ((u:Int),acc)= .bn (((u/ 128:Nat):Int),acc++[((u%128+128:Nat):Int)]):=by
 unfold ta
 rw[show decide ((u:Int)≥128)=true from decide_eq_true (by omega),cond_true,T4]
 show Step.bn (_,acc++[kQ .u8 (IntKind.u8.wrap (u:Int)) 128])=_
 rw[TJ]
theorem T7(R:Type){u:Nat}(acc:List Int)(h:u<128):tc R ((u:Int),acc)= .b8 ((u:Int),acc):=by
 unfold tc
 rw[show decide ((u:Int)≥128)=false from decide_eq_false (by omega)]
 rfl
theorem LX(R:Type){u:Nat}(acc:List Int)(h: ¬u<128)(ad:u<18446744073709551616):tc R ((u:Int),acc)= .bn (((u/ 128:Nat):Int),acc++[((u%128+128:Nat):Int)]):=by
 unfold tc
 rw[show decide ((u:Int)≥128)=true from decide_eq_true (by omega),cond_true,T5 ad]
 show Step.bn (_,acc++[IntKind.u8.wrap (IntKind.u8.wrap ((u:Int).tmod 128)+128)])=_
 rw[TK]
theorem LY{R:Type}{b:Int × List Int→Step R (Int × List Int)}(ao: ∀(u:Nat) acc,u<128→b ((u:Int),acc)= .b8 ((u:Int),acc))
 (ah: ∀(u:Nat) acc,¬u<128→u<18446744073709551616→b ((u:Int),acc)= .bn (((u/ 128:Nat):Int),acc++[((u%128+128:Nat):Int)])):
 ∀(f u F:Nat) (acc:List Int),u<128*128^f→u<18446744073709551616→f<F→∃(x:Nat) (l:List Int),b4 b F ((u:Int),acc)= .inr ((x:Int),acc++l)∧(kR f u).map (fun b:Nat=>(b:Int))=l++[(x:Int)]∧x<128
 |f,u,0,acc,h,_,hF=>absurd hF (Nat.not_lt_zero _)
 |f,u,F+1,acc,h,s9,hF=>by
  by_cases hu:u<128
  ·refine⟨u,[],by rw[LG (ao u acc hu),List.append_nil],?_,hu⟩
   cases f with
   |zero=>rfl
   |succ f=>unfold kR;rw[if_pos hu];rfl
  ·cases f with
   |zero=>exact absurd h (by simpa using hu)
   |succ f=>
    have ad:u/ 128<128*128^f:=by
     rw[Nat.pow_succ]at h;omega
    obtain⟨x,l,aA,aW,cr⟩:=LY ao ah f (u/ 128) F (acc++[((u%128+128:Nat):Int)]) ad (by omega) (by omega)
    refine⟨x,((u%128+128:Nat):Int)::l,?_,?_,cr⟩
    ·rw[LH (ah u acc hu s9),aA,List.append_assoc,List.singleton_append]
    ·unfold kR
     rw[if_neg hu,List.map_cons,aW,List.cons_append]
theorem LZ{R:Type}{b:Int × List Int→Step R (Int × List Int)}(ao: ∀(u:Nat) acc,u<128→b ((u:Int),acc)= .b8 ((u:Int),acc))
 (ah: ∀(u:Nat) acc,¬u<128→u<18446744073709551616→b ((u:Int),acc)= .bn (((u/ 128:Nat):Int),acc++[((u%128+128:Nat):Int)])){u:Nat}(s9:u<18446744073709551616):
 ∃(x:Nat) (l:List Int),b4 b cn ((u:Int),[])= .inr ((x:Int),l)∧bytesOf (List.append l [IntKind.wrap .u8 (x:Int)])=km u:=by
 obtain⟨x,l,aA,aW,cr⟩:=LY ao ah 9 u cn [] (Nat.lt_of_lt_of_le s9 (by decide)) s9 (by decide)
 refine⟨x,l,aA,?_⟩
 unfold km
 rw[aW,IntKind.wrap_u8',show(x:Int)%256=(x:Int)by omega]
 rfl
theorem L0{n:Int}(h:di n):ba .xor .u64 (ba .shl .u64 (IntKind.wrap .u64 n) 1) (IntKind.wrap .u64 (ba .shr .i64 n 63))=((gA n:Nat):Int):=by
 have:ba .shr .i64 n 63=n.fdiv 9223372036854775808:=rfl
 rw[this]
 exact TH h
theorem AE{n:Int}(h:di n):fH n=km (gA n):=by
 obtain⟨x,l,aA,aW⟩:=LZ (R:=ByteArray) (b:=ta ByteArray) (fun u acc=>T6 _ acc) (fun u acc h _=>LW _ acc h) (qb h)
 unfold fH
 rw[L0 h]
 show Sum.elim _ _ (b4 (ta ByteArray) cn (((gA n:Nat):Int),[]))=_
 rw[aA]
 exact aW
theorem Es{n:Int}(h:di n):hA n=km (gA n):=by
 obtain⟨x,l,aA,aW⟩:=LZ (R:=ByteArray) (b:=tc ByteArray) (fun u acc=>T7 _ acc) (fun u acc h ad=>LX _ acc h ad) (qb h)
 have aI:=LF h
 unfold hA
 dsimp only
 have key: ∀v:Int,v=((gA n:Nat):Int)→Sum.elim (fun r=>r) (fun bj:Int × List Int=>bytesOf (List.append bj.2 [IntKind.wrap .u8 bj.1])) (b4 (tc ByteArray) cn (v,[]))=km (gA n):=by
  rintro v rfl
  rw[aA];exact aW
 cases hd:decide (n<0)with
 |true=>
  rw[hd,cond_true]at aI;exact key _ aI
 |false=>
  rw[hd,cond_false]at aI;exact key _ aI
theorem vf{u:Nat}:(km u).size≤10:=by rw[LJ];exact TM 9 u
def qd(d:Int × List Int):Prop:=∃(u f:Nat),d.1=(u:Int)∧u<18446744073709551616∧u<128*128^f∧d.2.length+f≤9
theorem L1{u:Nat}(h:u<18446744073709551616):qd ((u:Int),[]):=⟨u,9,rfl,h,Nat.lt_of_lt_of_le h (by decide),Nat.le_refl _⟩
theorem L2{u:Nat}{acc:List Int}(h:qd ((u:Int),acc))(hu: ¬u<128):qd (((u/ 128:Nat):Int),acc++[((u%128+128:Nat):Int)]):=by
 obtain⟨v,f,aa,ad,aq,aS⟩:=h
 have:u=v:=by have:(u:Int)=v:=aa;omega
 subst this
 cases f with
 |zero=>exact absurd aq (by simpa using hu)
 |succ f=>
  have aS:acc.length+(f+1)≤9:=aS
  exact⟨u/ 128,f,rfl,by omega,by rw[Nat.pow_succ]at aq;omega,by show(acc++[_]).length+f≤9;rw[List.length_append];simp;omega⟩
theorem AF{d:Int × List Int}(h:qd d):d.2.length≤9:=by
 obtain⟨_,f,_,_,_,aS⟩:=h
 omega
theorem L3{d:Int × List Int}(h:qd d): ∃(u:Nat) (acc:List Int),d=((u:Int),acc)∧u<18446744073709551616:=by
 obtain⟨u,_,aa,ad,_⟩:=h
 exact⟨u,d.2,by rw[←aa],ad⟩
theorem vg{n:Int}(h:di n):n8 n:=by
 unfold n8
 rw[L0 h]
 refine⟨qd,fun d=>d.1.toNat,L1 (qb h),?_,fun d hd=>⟨fun hc=>?_,fun hc=>?_⟩⟩
 ·have:=qb h
  show(((gA n:Nat):Int)).toNat<cn;unfold cn;omega
 ·obtain⟨u,acc,rfl,hu⟩:=L3 hd
  have ao:acc.length≤9:=AF hd
  have hc: ¬u<128:=by have:=of_decide_eq_true hc;simp only at this;omega
  have ae:=LW Unit acc hc
  unfold ta at ae;rw[show decide ((u:Int)≥128)=true from decide_eq_true (by omega),cond_true]at ae
  have aA:=congrArg (fun s=>match s with|Step.bn x=>x.1|_=>0) ae
  have aW:=congrArg (fun s=>match s with|Step.bn x=>x.2|_=>[]) ae
  simp only at aA aW;refine⟨⟨?_,?_⟩,?_,?_⟩
  ·show acc.length+1≤maxLen
   unfold maxLen;omega
  ·show(acc.length+1)*1≤_
   omega
  ·show qd (ba .shr .u64 (u:Int) 7,List.append acc [ba .or .u8 (IntKind.wrap .u8 (u:Int)) 128])
   rw[aA,aW];exact L2 hd hc
  ·show(ba .shr .u64 (u:Int) 7).toNat<(u:Int).toNat
   rw[aA];omega
 ·have ao:=AF hd
  refine⟨?_,?_⟩
  ·show d.2.length+1≤maxLen
   unfold maxLen;omega
  ·show(d.2.length+1)*1≤_
   omega
theorem rK{n:Int}(h:di n):lv n:=by
 have key: ∀v:Int,v=((gA n:Nat):Int)→∃(bP:(Int × (List Int))→Prop) (dA:(Int × (List Int))→Nat),bP (v,[])∧dA (v,[])<cn∧∀(d0:Int × (List Int)),bP d0→(
  ((decide (d0.1≥128))=true→(
   let v11:List Int:=([(IntKind.wrap .u8 ((IntKind.wrap .u8 (ba .rem .u64 d0.1 (128:Int)))+(128:Int)))]:List Int)
   (List.length d0.2+List.length v11≤maxLen∧(List.length d0.2+List.length v11)*1≤140737488355328)∧
   bP ((ba .quo .u64 d0.1 (128:Int)),(List.append d0.2 v11))∧dA ((ba .quo .u64 d0.1 (128:Int)),(List.append d0.2 v11))<dA d0))∧((decide (d0.1≥128))=false→(
   List.length d0.2+List.length ([IntKind.wrap .u8 d0.1]:List Int)≤maxLen∧(List.length d0.2+List.length ([IntKind.wrap .u8 d0.1]:List Int))*1≤140737488355328))):=by
   rintro v rfl
   refine⟨qd,fun d=>d.1.toNat,L1 (qb h),?_,fun d hd=>⟨fun hc=>?_,fun hc=>?_⟩⟩
   ·have:=qb h
    show(((gA n:Nat):Int)).toNat<cn;unfold cn;omega
   ·obtain⟨u,acc,rfl,hu⟩:=L3 hd
    have ao:acc.length≤9:=AF hd
    have hc: ¬u<128:=by have:=of_decide_eq_true hc;simp only at this;omega
    have ae:=LX Unit acc hc hu
    unfold tc at ae;rw[show decide ((u:Int)≥128)=true from decide_eq_true (by omega),cond_true]at ae
    have aA:=congrArg (fun s=>match s with|Step.bn x=>x.1|_=>0) ae
    have aW:=congrArg (fun s=>match s with|Step.bn x=>x.2|_=>[]) ae
    simp only at aA aW;refine⟨⟨?_,?_⟩,?_,?_⟩
    ·show acc.length+1≤maxLen
     unfold maxLen;omega
    ·show(acc.length+1)*1≤_
     omega
    ·show qd (ba .quo .u64 (u:Int) 128,List.append acc [IntKind.wrap .u8 (IntKind.wrap .u8 (ba .rem .u64 (u:Int) 128)+128)])
     rw[aA,aW];exact L2 hd hc
    ·show(ba .quo .u64 (u:Int) 128).toNat<(u:Int).toNat
     rw[aA];omega
   ·have ao:=AF hd
    refine⟨?_,?_⟩
    ·show d.2.length+1≤maxLen
     unfold maxLen;omega
    ·show(d.2.length+1)*1≤_
     omega
 have aI:=LF h
 unfold lv
 refine⟨fun hd=>?_,fun hd=>?_⟩
 ·rw[hd,cond_true]at aI
  exact key _ aI
 ·rw[hd,cond_false]at aI
  exact key _ aI
def bz(s:ByteArray):Prop:=s.size≤140737488351232
theorem bz.i64{s:ByteArray}(h:bz s):di (s.size:Int):=by unfold bz at h;exact⟨by omega,by omega⟩
theorem AG{s:ByteArray}(h:bz s):hB s=km (gA s.size)++s:=by
 unfold hB
 rw[AE h.i64]
 rfl
theorem T8{s:ByteArray}(h:bz s):kS s=km (gA s.size)++s:=by
 unfold kS
 rw[Es h.i64]
 rfl
theorem T9(a b:ByteArray):(a++b).size=a.size+b.size:=ByteArray.size_append
theorem vh{s:ByteArray}(h:bz s):(hB s).size≤140737488351242:=by
 rw[AG h,ByteArray.size_append]
 have:=vf (u:=gA s.size)
 unfold bz at h
 omega
theorem xH{s:ByteArray}(h:bz s):rL s:=by
 refine⟨vg h.i64,?_⟩
 have:=vf (u:=gA s.size)
 rw[AE h.i64]
 unfold bz at h
 omega
theorem xI{s:ByteArray}(h:bz s):rM s:=by
 refine⟨rK h.i64,?_⟩
 have:=vf (u:=gA s.size)
 rw[Es h.i64]
 unfold bz at h
 omega
theorem pb{s:ByteArray}(h:bz s):kS s=hB s:=by rw[T8 h,AG h]
theorem n9{n:Int}(h:di n):hA n=fH n:=by rw[Es h,AE h]
theorem mD{n:Int}(h:di n):(fH n).size≤10:=by rw[AE h];exact vf
end Go.aM
namespace Go.aM
open Go Go.ed
theorem L4(r:Rd)(n:Int):0≤(gq r n).1:=by
 unfold gq
 cases cX:((jG ((cW r).2)) != 0)with
 |true=>exact Int.le_refl _
 |false=>
  simp only[cond_false]
  cases gb:decide ((cW r).1<0)with
  |true=>exact Int.le_refl _
  |false=>
   simp only[cond_false]
   have gb:=of_decide_eq_false gb
   cases mE:decide ((cW r).1>(if 0>n then 0 else n))with
   |true=>exact Int.le_refl _
   |false=>
    simp only[cond_false];omega
theorem qe(v:bI):eU v=kl v:=by
 unfold eU kl a8
 dsimp only
 have:Et v.n=xw v.n:=rfl
 rw[this]
 cases (v.kind==0)<;>cases (v.kind==4)<;>cases (v.kind==1)<;>cases (v.kind==2)<;>cases (v.kind==3)<;>rfl
theorem L5(v:bI):lZ v=rF v:=by
 unfold lZ rF a8
 dsimp only
 cases (v.kind==0)<;>cases (v.kind==4)<;>cases (v.kind==1)<;>cases (v.kind==2)<;>cases (v.kind==3)<;>rfl
theorem vi(v:bI):lZ v=eU v:=by rw[L5,qe,LB]
theorem qf(r:Rd):nz r=(r,jG r):=by
 unfold nz jG
 cases r.made<;>rfl
theorem qg(r:ch):mF r=(r,ga r):=by
 unfold mF ga
 cases r.made<;>rfl
def dC(s:ByteArray):Prop:=s.size≤4611686018427387904
theorem xJ{s:ByteArray}{k:Nat}(h:k<s.size):s.data.toList[k]? =some (s.data.toList.getD k 0)∧aC s (k:Int)=((s.data.toList.getD k 0).toNat:Int):=by
 have ao:k<s.data.toList.length:=h
 refine⟨by rw[List.getD_eq_getElem?_getD,List.getElem?_eq_getElem ao];rfl,?_⟩
 unfold aC
 rw[Int.toNat_natCast]
theorem L6{s:ByteArray}(h:dC s):xK s=jF s:=by
 unfold dC at h
 unfold xK jF xv
 dsimp only
 rw[Int.toNat_natCast,xL (b:=p8 s) (fun _ _=>True) s.size (fun i v hi _=>⟨?_,fun _ _=>trivial⟩) s.size 0 0 (Nat.zero_add _) trivial]
 ·cases bL (p8 s) 0 s.size 0<;>rfl
 ·obtain⟨aA,aW⟩:=xJ hi
  unfold p8;dsimp only;rw[aA,aW];dsimp only
  have hw:IntKind.wrap .i64 ((i:Int)+1)=((i+1:Nat):Int):=by rw[c4 _ (by omega) (by omega)];omega
  rw[hw];rfl
theorem pc{r:Rd}(h:dC r.rest):iq r=((cW r).2,(cW r).1):=by
 unfold iq cW
 rw[qf]
 dsimp only
 rw[L6 h]
 cases (jG r != 0)with
 |true=>rfl
 |false=>
  simp only[cond_false]
  cases ((jF r.rest).2.2 != 0)<;>rfl
theorem L7{s:ByteArray}{a b:Nat}(h:dC s):dC (s.extract a b):=by
 unfold dC at h⊢
 rw[ByteArray.size_extract]
 omega
theorem rN{r:Rd}(h:dC r.rest):dC (cW r).2.rest:=by
 unfold cW
 simp only[cond_eq_ite]
 repeat' split
 all_goals first|exact h|exact L7 h
theorem Ua{r:Rd}{n:Int}(h:dC r.rest):dC (gq r n).2.rest:=by
 have:=rN h
 unfold gq
 simp only[cond_eq_ite]
 repeat' split
 all_goals exact this
theorem AH{r:Rd}{n:Int}(h:dC r.rest):dC (iF r n).2.rest:=by
 have:=Ua (n:=n) h
 unfold iF
 simp only[cond_eq_ite]
 repeat' split
 all_goals first|exact this|exact L7 this
theorem L8{r:Rd}{n:Int}(h:dC r.rest):xM r n=((gq r n).2,(gq r n).1):=by
 unfold xM gq
 rw[pc h]
 dsimp only
 rw[qf]
 simp only[cond_eq_ite]
 repeat' split
 all_goals first|rfl|(simp_all[b6.den])
theorem rO{r:Rd}{n:Int}(h:dC r.rest):iG r n=((iF r n).2,(iF r n).1):=by
 unfold iG iF
 rw[L8 h]
 dsimp only
 rw[qf]
 simp only[cond_eq_ite]
 repeat' split
 all_goals rfl
theorem Ub(r:Rd)(e:Int):AI r e=rE r e:=by
 unfold AI rE
 rw[qf]
theorem L9(r:Rd):(⟨r.rest,r.err,r.made⟩:Rd)=r:=rfl
theorem Ma{r:Rd}(h:dC r.rest):td r=((o8 r).2,(o8 r).1):=by
 have aa:=rN h
 unfold td o8 rG s4 s5
 rw[pc h]
 dsimp only
 rw[pc aa,rO aa]
 simp only[qf,Ub,qe,L9]
 cases ((cW r).1==1)<;>cases ((cW r).1==2)<;>cases ((cW r).1==3)<;>cases ((cW r).1==4)<;>simp only[cond_true,cond_false,Bool.true_or,Bool.or_true,Bool.false_or,Bool.or_false,L9]<;>(cases (kl _ != 0)<;>simp only[cond_true,cond_false]<;>(cases (jG _ != 0)<;>rfl))
theorem Uc(r:Rd):(AJ r).2=o7 r:=by
 unfold AJ Eu o7 Eg
 rw[qf]
 dsimp only
 cases (jG r != 0)<;>simp only[cond_true,cond_false]<;>rw[qf]<;>simp only[cond_eq_ite]<;>split<;>rfl
theorem oa{q:ch}(an:jl q):ir q=((de q).2,(de q).1):=by
 have lx:=an
 obtain⟨aa,ad,aq⟩:=an
 unfold ir de Eh
 rw[qg]
 dsimp only
 cases (ga q != 0)with
 |true=>rfl
 |false=>
  simp only[cond_false]
  rw[show Int.toNat 10=10 from rfl,xL (b:=fun i v=>hN (fun x:Int × dH=>(x.2,x.1)) (ny q i v)) (fun _ _=>True) 10 (fun i v hi _=>⟨?_,fun _ _=>trivial⟩) 10 0 0 (Nat.zero_add _) trivial,
   te (fun x:Int × dH=>(x.2,x.1)) (b:=ny q) (fun _ _=>rfl)]
  ·cases bL (ny q) 0 10 0<;>rfl
  ·have cq:IntKind.wrap .i64 (q.at_+(i:Int))=q.at_+(i:Int):=c4 _ (by omega) (by omega)
   unfold ny;dsimp only
   cases hd:decide (IntKind.wrap .i64 (q.at_+(i:Int))≥(q.s.size:Int))with
   |true=>rfl
   |false=>
    have hd:=of_decide_eq_false hd
    rw[cq]at hd;obtain⟨j,ai⟩: ∃j:Nat,q.at_+(i:Int)=(j:Int):=⟨(q.at_+i).toNat,by omega⟩
    obtain⟨aA,aW⟩:=xJ (s:=q.s) (k:=j) (by omega)
    simp only[cond_false];rw[cq,ai,Int.toNat_natCast,aA,aW];dsimp only;show(bif _ then _ else bif _ then(bif _ then _ else _)else _)=hN _ (bif _ then _ else bif _ then _ else _)
    simp only[cond_eq_ite]
    split
    ·rfl
    ·split
     ·show(if _ then _ else _)=Step.ret (_,if _ then _ else _)
      have ae: ∀(c:Bool) (A:ch) (x y:Int),(if c=true then(Step.ret (A,x):Step (ch × Int) Int)else Step.ret (A,y))=Step.ret (A,if c=true then x else y):=fun c A x y=>by cases c<;>rfl
      exact ae _ _ _ _
     ·rfl
theorem Mb{q:ch}{n:Int}(an:jl q):xN q n=((dh q n).2,(dh q n).1):=by
 unfold xN dh
 rw[oa an]
 dsimp only
 rw[qg]
 cases decide (n<0)<;>simp only[cond_true,cond_false]<;>simp only[cond_eq_ite]<;>(repeat' split)<;>rfl
theorem qh{q:ch}{n:Int}(an:jl q):iH q n=((lu q n).2,(lu q n).1):=by
 obtain⟨aa,ad,aq⟩:=Eo (n:=n) an
 have hn:=AB q n
 unfold iH lu
 rw[Mb an]
 dsimp only
 rw[qg]
 dsimp only
 have cq:IntKind.i64.wrap (((dh q n).2.s.size:Int)-(dh q n).2.at_)=((dh q n).2.s.size:Int)-(dh q n).2.at_:=c4 _ (by omega) (by omega)
 rw[cq]
 cases (ga (dh q n).2 != 0)with
 |true=>rfl
 |false=>
  simp only[cond_false]
  cases hd:decide ((dh q n).1>((dh q n).2.s.size:Int)-(dh q n).2.at_)with
  |true=>rfl
  |false=>
   have hd:=of_decide_eq_false hd
   have cy:IntKind.i64.wrap ((dh q n).2.at_+(dh q n).1)=(dh q n).2.at_+(dh q n).1:=c4 _ (by omega) (by omega)
   simp only[cond_false];rw[cy];rfl
theorem Ud(q:ch)(e:Int):AK q e=xx q e:=by
 unfold AK xx
 rw[qg]
theorem Mc(r:ch):(⟨r.s,r.at_,r.bad,r.made⟩:ch)=r:=rfl
theorem Md{q:ch}(an:jl q):tf q=((vb q).2,(vb q).1):=by
 have aa:=AA an
 have ad:=Ep (n:=60) aa
 unfold tf vb s8 o9 s7 mA s6
 rw[oa an]
 dsimp only
 rw[qh aa]
 simp only[Mc]
 rw[oa aa,oa ad]
 simp only[qg,Ud,L5,Mc]
 cases ((de q).1==4)<;>simp only[cond_true,cond_false]<;>cases (decide ((de q).1≥1)&&decide ((de q).1≤3))<;>simp only[cond_true,cond_false]<;>(cases gd:(ga _==0)<;>simp only[cond_true,cond_false,Bool.true_and,Bool.false_and,bne_self_eq_false])<;>(repeat (cases (rF _ != 0)<;>simp only[cond_true,cond_false]))<;>(cases (ga _ != 0)<;>rfl)
theorem Ue(q:ch):(AL q).2=Ax q:=by
 unfold AL Ax
 rw[qg]
 dsimp only
 rw[qg]
 simp only[cond_eq_ite]
 repeat' split
 all_goals rfl
end Go.aM
namespace Go.aM
open Go Go.ed
theorem Uf{s:ByteArray}(h:dC s):Ev s:=by
 unfold dC at h
 refine⟨⟨by omega,by omega⟩,fun i _=>i≤9,Nat.zero_le _,fun i d _ hi=>?_⟩
 have hi:i≤9:=hi
 intro v5 hc
 refine⟨?_,fun fc=>?_⟩
 ·show 0≤IntKind.wrap .i64 (7*(i:Int))
  rw[c4 _ (by omega) (by omega)]
  omega
 ·have fc:=of_decide_eq_false fc
  show i+1≤9
  rcases Nat.lt_or_ge i 9 with ik|ik
  ·exact ik
  ·have:i=9:=by omega
   subst this;simp only[Bool.or_eq_false_iff,Bool.and_eq_false_iff]at hc
   rcases hc.2 with h|h
   ·exact absurd h (by decide)
   ·have:=of_decide_eq_false h
    omega
theorem Ug{s:ByteArray}(h:(jF s).2.2=0):0≤(jF s).2.1∧(jF s).2.1≤(s.size:Int):=by
 obtain⟨u,t,aa,ad,aq,aS⟩:=LQ (s:=s) (U:=(jF s).1) (N:=(jF s).2.1) (by rw[←h])
 rw[aq]
 have:=congrArg ByteArray.size ad
 rw[ByteArray.size_append]at this
 omega
theorem rP{r:Rd}(h:dC r.rest):qi r:=by
 unfold qi
 rw[qf]
 intro v1 _
 refine⟨Uf h,fun hc=>?_⟩
 have hc:=Ay hc
 rw[L6 h]at hc⊢
 exact Ug hc
theorem Uh{r:Rd}{n:Int}(h:dC r.rest):Ew r n:=rP h
theorem th{r:Rd}{n:Int}(h:dC r.rest):ti r n:=by
 refine⟨Uh h,?_⟩
 rw[L8 h]
 show(_ != 0)=false→_
 rw[qf]
 intro _ hd
 have hd:=of_decide_eq_false hd
 have hn:=L4 r n
 have hd: ¬(gq r n).1>((gq r n).2.rest.size:Int):=hd
 exact⟨⟨hn,by omega⟩,hn,by omega⟩
theorem Ui{r:Rd}(h:dC r.rest):AM r:=by
 have aa:=rN h
 unfold AM
 rw[pc h]
 dsimp only
 refine⟨rP h,⟨fun _=>⟨fun _=>rP aa,fun _ _=>th aa⟩,fun _=>⟨fun _=>⟨fun _=>rP aa,fun _ _=>th aa⟩,fun _=>⟨fun _=>rP aa,fun _ _=>th aa⟩⟩⟩⟩
theorem Uj{r:Rd}{e:Int}(h:dC r.rest):dC (rE r e).rest:=by
 unfold rE
 cases (jG r==0)<;>exact h
theorem Uk{r:Rd}(h:dC r.rest):dC (o8 r).2.rest:=by
 have aa:=rN h
 have ad:dC (s5 r).rest:=by
  unfold s5;simp only[cond_eq_ite]
  repeat' split
  ·exact rN aa
  ·exact AH aa
  ·exact aa
 have aq:dC (rG r).rest:=by
  unfold rG;simp only[cond_eq_ite]
  split
  ·exact Uj ad
  ·exact ad
 unfold o8
 simp only[cond_eq_ite]
 split<;>exact aq
def kT(s:ByteArray):Int × Rd:=cW (Ly s)
def kU(s:ByteArray):Int × Rd:=cW (kT s).2
def mG(s:ByteArray):Int × Rd:=cW (kU s).2
def mH(s:ByteArray):ByteArray × Rd:=iF (mG s).2 24
def mI(s:ByteArray):ByteArray × Rd:=iF (mH s).2 24
def nA(s:ByteArray):ByteArray × Rd:=iF (mI s).2 24
def pd(s:ByteArray):bI × Rd:=o8 (nA s).2
def kn(s:ByteArray):ByteArray × Rd:=iF (pd s).2 20000
def eE(s:ByteArray):dI:=⟨(kT s).1,(kU s).1,⟨(mG s).1,(mH s).1,(mI s).1⟩,(nA s).1,(pd s).1,(kn s).1⟩
def AN:dI:=⟨0,0,⟨0,⟨#[]⟩,⟨#[]⟩⟩,⟨#[]⟩,⟨0,0,⟨#[]⟩⟩,⟨#[]⟩⟩
def gC(s:ByteArray):dI × Int:=
 if o7 (kn s).2≠0 then(AN,o7 (kn s).2)else if(eE s).kind<1∨(eE s).kind>7 then(AN,7)else if(eE s).cY<0∨(eE s).cY>1099511627776 then(AN,2)else(eE s,0)
theorem Me{s:ByteArray}(h:dC s):dC (kT s).2.rest∧dC (kU s).2.rest∧dC (mG s).2.rest∧dC (mH s).2.rest∧dC (mI s).2.rest∧dC (nA s).2.rest∧dC (pd s).2.rest:=by
 have aa:dC (kT s).2.rest:=rN h
 have ad:dC (kU s).2.rest:=rN aa
 have aq:dC (mG s).2.rest:=rN ad
 have aS:dC (mH s).2.rest:=AH aq
 have bC:dC (mI s).2.rest:=AH aS
 have cC:dC (nA s).2.rest:=AH bC
 exact⟨aa,ad,aq,aS,bC,cC,Uk cC⟩
theorem vj{s:ByteArray}(h:dC s):hC s=gC s:=by
 obtain⟨aa,ad,aq,aS,bC,cC,dB⟩:=Me h
 have aA:iq ⟨s,0,true⟩=((kT s).2,(kT s).1):=pc (r:=⟨s,0,true⟩) h
 have aW:iq (kT s).2=((kU s).2,(kU s).1):=pc aa
 have cr:iq (kU s).2=((mG s).2,(mG s).1):=pc ad
 have eD:iG (mG s).2 24=((mH s).2,(mH s).1):=rO aq
 have n7:iG (mH s).2 24=((mI s).2,(mI s).1):=rO aS
 have tj:iG (mI s).2 24=((nA s).2,(nA s).1):=rO bC
 have tk:td (nA s).2=((pd s).2,(pd s).1):=Ma cC
 have xB:iG (pd s).2 20000=((kn s).2,(kn s).1):=rO dB
 unfold hC gC
 simp only[aA,aW,cr,eD,n7,tj,tk,xB,Uc]
 unfold Ex Ey
 by_cases gd:o7 (kn s).2=0
 ·rw[gd,if_neg (fun h=>h rfl)]
  simp only[bne_self_eq_false,cond_false];show(bif(bif(decide ((eE s).kind<1)||decide ((eE s).kind>7))then(7:Int)else 0) != 0 then _ else _)=_
  by_cases hK:(eE s).kind<1∨(eE s).kind>7
  ·rw[if_pos hK,show(decide ((eE s).kind<1)||decide ((eE s).kind>7))=true by simpa using hK]
   have:(decide ((kT s).1<1)||decide ((kT s).1>7))=true:=by have hK:(kT s).1<1∨(kT s).1>7:=hK;simpa using hK
   rw[this];rfl
  ·rw[if_neg hK,show(decide ((eE s).kind<1)||decide ((eE s).kind>7))=false by simp only[not_or]at hK;simp only[Bool.or_eq_false_iff,decide_eq_false_iff_not];exact hK]
   show(bif(bif(decide ((eE s).cY<0)||decide ((eE s).cY>1099511627776))then(2:Int)else 0) != 0 then _ else _)=_
   by_cases hg:(eE s).cY<0∨(eE s).cY>1099511627776
   ·rw[if_pos hg,show(decide ((eE s).cY<0)||decide ((eE s).cY>1099511627776))=true by simpa using hg]
    have:(decide ((kU s).1<0)||decide ((kU s).1>1099511627776))=true:=by have hg:(kU s).1<0∨(kU s).1>1099511627776:=hg;simpa using hg
    rw[this];rfl
   ·rw[if_neg hg,show(decide ((eE s).cY<0)||decide ((eE s).cY>1099511627776))=false by simp only[not_or]at hg;simp only[Bool.or_eq_false_iff,decide_eq_false_iff_not];exact hg]
    rfl
 ·rw[if_pos gd,show(o7 (kn s).2 != 0)=true by simpa using gd]
  simp only[cond_true];rfl
theorem Mf{s:ByteArray}(h:dC s):vk s:=by
 obtain⟨aa,ad,aq,aS,bC,cC,dB⟩:=Me h
 have aA:iq ⟨s,0,true⟩=((kT s).2,(kT s).1):=pc (r:=⟨s,0,true⟩) h
 have aW:iq (kT s).2=((kU s).2,(kU s).1):=pc aa
 have cr:iq (kU s).2=((mG s).2,(mG s).1):=pc ad
 have eD:iG (mG s).2 24=((mH s).2,(mH s).1):=rO aq
 have n7:iG (mH s).2 24=((mI s).2,(mI s).1):=rO aS
 have tj:iG (mI s).2 24=((nA s).2,(nA s).1):=rO bC
 have tk:td (nA s).2=((pd s).2,(pd s).1):=Ma cC
 unfold vk
 simp only[aA,aW,cr,eD,n7,tj,tk]
 exact⟨rP (r:=⟨s,0,true⟩) h,rP aa,rP ad,th aq,th aS,th bC,Ui cC,th dB⟩
def ob(s:ByteArray):Int × ch:=de (Lz s)
def oc(s:ByteArray):Int × ch:=de (ob s).2
def pe(s:ByteArray):Int × ch:=de (oc s).2
def pf(s:ByteArray):ByteArray × ch:=lu (pe s).2 24
def pg(s:ByteArray):ByteArray × ch:=lu (pf s).2 24
def ph(s:ByteArray):ByteArray × ch:=lu (pg s).2 24
def od(s:ByteArray):bI × ch:=vb (ph s).2
def xO(s:ByteArray):ByteArray × ch:=lu (od s).2 20000
theorem AO{s:ByteArray}(h:dC s):il (Ly s) (Lz s):=by
 refine⟨⟨Int.le_refl _,by show(0:Int)≤s.size;omega,h⟩,?_⟩
 show(⟨s,0,true⟩:Rd)=⟨s.extract 0 s.size,0,true⟩
 rw[show s.extract 0 s.size=s from mB (by rw[qc];rfl)]
theorem Mg{s:ByteArray}(h:dC s):((kT s).1=(ob s).1∧il (kT s).2 (ob s).2)∧((kU s).1=(oc s).1∧il (kU s).2 (oc s).2)∧((mG s).1=(pe s).1∧il (mG s).2 (pe s).2)∧((mH s).1=(pf s).1∧il (mH s).2 (pf s).2)∧
 ((mI s).1=(pg s).1∧il (mI s).2 (pg s).2)∧((nA s).1=(ph s).1∧il (nA s).2 (ph s).2)∧((pd s).1=(od s).1∧il (pd s).2 (od s).2)∧((kn s).1=(xO s).1∧il (kn s).2 (xO s).2):=by
 have aa:=ve _ _ (AO h)
 have ad:=ve _ _ aa.2
 have aq:=ve _ _ ad.2
 have aS:=xF 24 _ _ aq.2
 have bC:=xF 24 _ _ aS.2
 have cC:=xF 24 _ _ bC.2
 have dB:=T1 _ _ cC.2
 exact⟨aa,ad,aq,aS,bC,cC,dB,xF 20000 _ _ dB.2⟩
theorem Ez{s:ByteArray}(h:dC s):nB s=gC s:=by
 obtain⟨s1,s2,hh,ko,kp,kq,kV,EA⟩:=Mg h
 have aA:ir ⟨s,0,0,true⟩=((ob s).2,(ob s).1):=oa (q:=⟨s,0,0,true⟩) (AO h).1
 have aW:ir (ob s).2=((oc s).2,(oc s).1):=oa s1.2.1
 have cr:ir (oc s).2=((pe s).2,(pe s).1):=oa s2.2.1
 have eD:iH (pe s).2 24=((pf s).2,(pf s).1):=qh hh.2.1
 have n7:iH (pf s).2 24=((pg s).2,(pg s).1):=qh ko.2.1
 have tj:iH (pg s).2 24=((ph s).2,(ph s).1):=qh kp.2.1
 have tk:tf (ph s).2=((od s).2,(od s).1):=Md kq.2.1
 have xB:iH (od s).2 20000=((xO s).2,(xO s).1):=qh kV.2.1
 unfold nB gC
 simp only[aA,aW,cr,eD,n7,tj,tk,xB,Ue]
 rw[←T3 EA.2]
 have aj:(ob s).1=(eE s).kind:=s1.1.symm
 have hn:(oc s).1=(eE s).cY:=s2.1.symm
 have hd:(⟨(ob s).1,(oc s).1,⟨(pe s).1,(pf s).1,(pg s).1⟩,(ph s).1,⟨(od s).1.kind,(od s).1.n,(od s).1.s⟩,(xO s).1⟩:dI)=eE s:=by
  unfold eE;rw[s1.1,s2.1,hh.1,ko.1,kp.1,kq.1,kV.1,EA.1]
 rw[hd,aj,hn]
 by_cases gd:o7 (kn s).2=0
 ·rw[gd,if_neg (fun h=>h rfl)]
  simp only[bne_self_eq_false,cond_false]
  by_cases hK:(eE s).kind<1∨(eE s).kind>7
  ·rw[if_pos hK,show(decide ((eE s).kind<1)||decide ((eE s).kind>7))=true by simpa using hK]
   rfl
  ·rw[if_neg hK,show(decide ((eE s).kind<1)||decide ((eE s).kind>7))=false by simp only[not_or]at hK;simp only[Bool.or_eq_false_iff,decide_eq_false_iff_not];exact hK]
   by_cases hg:(eE s).cY<0∨(eE s).cY>1099511627776
   ·rw[if_pos hg,show(decide ((eE s).cY<0)||decide ((eE s).cY>1099511627776))=true by simpa using hg]
    rfl
   ·rw[if_neg hg,show(decide ((eE s).cY<0)||decide ((eE s).cY>1099511627776))=false by simp only[not_or]at hg;simp only[Bool.or_eq_false_iff,decide_eq_false_iff_not];exact hg]
    rfl
 ·rw[if_pos gd,show(o7 (kn s).2 != 0)=true by simpa using gd]
  rfl
theorem tl{q:ch}(an:jl q):qj q:=by
 obtain⟨aa,ad,aq⟩:=an
 unfold qj
 rw[qg]
 intro v1 _
 refine⟨fun _ _=>True,trivial,fun i d hi _=>?_⟩
 have hi:i<10:=hi
 have cq:IntKind.wrap .i64 (q.at_+(i:Int))=q.at_+(i:Int):=c4 _ (by omega) (by omega)
 show decide (IntKind.wrap .i64 (q.at_+(i:Int))≥(q.s.size:Int))=false→(0≤IntKind.wrap .i64 (q.at_+(i:Int))∧IntKind.wrap .i64 (q.at_+(i:Int))<(q.s.size:Int))∧_
 rw[cq]
 intro hd
 have hd:=of_decide_eq_false hd
 refine⟨⟨by omega,by omega⟩,fun _=>⟨?_,fun _=>trivial⟩⟩
 show 0≤IntKind.wrap .i64 (7*(i:Int))
 rw[c4 _ (by omega) (by omega)]
 omega
theorem Ul{q:ch}{n:Int}(an:jl q):EB q n:=tl an
theorem xP{q:ch}{n:Int}(an:jl q):tm q n:=by
 obtain⟨aa,ad,aq⟩:=Eo (n:=n) an
 have hn:=AB q n
 refine⟨Ul an,?_⟩
 rw[Mb an]
 show(_ != 0)=false→_
 rw[qg]
 intro _ hd
 have cq:IntKind.i64.wrap (((dh q n).2.s.size:Int)-(dh q n).2.at_)=((dh q n).2.s.size:Int)-(dh q n).2.at_:=c4 _ (by omega) (by omega)
 have hd:decide ((dh q n).1>IntKind.i64.wrap (((dh q n).2.s.size:Int)-(dh q n).2.at_))=false:=hd
 rw[cq]at hd
 have hd:=of_decide_eq_false hd
 have cy:IntKind.i64.wrap ((dh q n).2.at_+(dh q n).1)=(dh q n).2.at_+(dh q n).1:=c4 _ (by omega) (by omega)
 show 0≤(dh q n).2.at_∧(dh q n).2.at_≤IntKind.i64.wrap ((dh q n).2.at_+(dh q n).1)∧IntKind.i64.wrap ((dh q n).2.at_+(dh q n).1)≤((dh q n).2.s.size:Int)
 rw[cy]
 omega
theorem Um{q:ch}(an:jl q):AP q:=by
 have aa:=AA an
 have ad:=Ep (n:=60) aa
 unfold AP
 rw[oa an]
 dsimp only
 refine⟨tl an,fun _=>⟨xP aa,?_⟩,fun _ _=>tl aa⟩
 rw[qh aa]
 exact fun _=>tl ad
theorem Mh{s:ByteArray}(h:dC s):qk s:=by
 obtain⟨s1,s2,hh,ko,kp,kq,kV,EA⟩:=Mg h
 have aA:ir ⟨s,0,0,true⟩=((ob s).2,(ob s).1):=oa (q:=⟨s,0,0,true⟩) (AO h).1
 have aW:ir (ob s).2=((oc s).2,(oc s).1):=oa s1.2.1
 have cr:ir (oc s).2=((pe s).2,(pe s).1):=oa s2.2.1
 have eD:iH (pe s).2 24=((pf s).2,(pf s).1):=qh hh.2.1
 have n7:iH (pf s).2 24=((pg s).2,(pg s).1):=qh ko.2.1
 have tj:iH (pg s).2 24=((ph s).2,(ph s).1):=qh kp.2.1
 have tk:tf (ph s).2=((od s).2,(od s).1):=Md kq.2.1
 unfold qk
 simp only[aA,aW,cr,eD,n7,tj,tk]
 exact⟨tl (q:=⟨s,0,0,true⟩) (AO h).1,tl s1.2.1,tl s2.2.1,xP hh.2.1,xP ko.2.1,xP kp.2.1,Um kq.2.1,xP kV.2.1⟩
end Go.aM
namespace Go.aM
open Go Go.ed
def jH(P:Int→Int→Bool)(x:ByteArray):Nat→Nat→Bool
 |_,0=>true
 |k,n+1=>!P (aC x (k:Int)) (k:Int)&&jH P x (k+1) n
theorem EC{P:Int→Int→Bool}{x:ByteArray}{b:Nat→Unit→Step Bool Unit}(ae: ∀i v,b i v=bif P (aC x (i:Int)) (i:Int)then .ret false else .bn ()):
 ∀(n k:Nat),bL b k n ()=bif jH P x k n then .inr ()else .inl false
 |0,_=>rfl
 |n+1,k=>by
  unfold bL jH;rw[ae]
  cases P (aC x (k:Int)) (k:Int)with
  |true=>rfl
  |false=>exact EC ae n (k+1)
theorem Mi{x:ByteArray}{k:Nat}(aj:k<x.size):aC x (k:Int)=((x[k]'aj).toNat:Int):=by
 rw[(xJ aj).2,List.getD_eq_getElem?_getD,List.getElem?_eq_getElem (show k<x.data.toList.length from aj)]
 rfl
theorem ED{P:Int→Int→Bool}(oe: ∀c i,128≤c→P c i=true){x:ByteArray}{b:Int→Step Bool Int}
 (ae: ∀c,b c=bif b6.den .jm x c then(bif P (b6.den .jn x c) (b6.den .kr x c)then .ret false else .bn (b6.den .h0 x c))else .b8 c):
 ∀(n p F:Nat),x.size-p=n→n<F→∃v,b4 b F (p:Int)=bif jH P x p n then .inr v else .inl false
 |n,p,0,_,h=>absurd h (Nat.not_lt_zero _)
 |0,p,F+1,hn,_=>by
  refine⟨(p:Int),?_⟩
  have:b6.den .jm x (p:Int)=false:=decide_eq_false (by rw[Int.toNat_natCast];omega)
  rw[LG (y:=(p:Int)) (by rw[ae,this,cond_false]),jH,cond_true]
 |n+1,p,F+1,hn,hF=>by
  have ak:p<x.size:=by omega
  have aa:b6.den .jm x (p:Int)=true:=decide_eq_true (by rw[Int.toNat_natCast];exact ak)
  have aq:b6.den .kr x (p:Int)=(p:Int):=by show((p:Int).toNat:Int)=p;rw[Int.toNat_natCast]
  have ad:b6.den .jn x (p:Int)=((Utf8.decode x p).1:Int):=by show((Utf8.decode x (p:Int).toNat).1:Int)=_;rw[Int.toNat_natCast]
  have aS:b6.den .h0 x (p:Int)=((p+(Utf8.decode x p).2:Nat):Int):=by show(((p:Int).toNat+(Utf8.decode x (p:Int).toNat).2:Nat):Int)=_;rw[Int.toNat_natCast]
  rcases Nat.lt_or_ge (x[p]'ak).toNat 128 with aI|aI
  ·have hd:=decode_ascii x p ak aI
   have av:((Utf8.decode x p).1:Int)=aC x (p:Int):=by rw[hd,Mi ak]
   have Un:p+(Utf8.decode x p).2=p+1:=by rw[hd]
   cases aL:P (aC x (p:Int)) (p:Int)with
   |true=>
    refine⟨0,?_⟩
    unfold b4 jH;rw[ae,aa,cond_true,ad,aq,av,aL];rfl
   |false=>
    obtain⟨v,aR⟩:=ED oe ae n (p+1) F (by omega) (by omega)
    refine⟨v,?_⟩
    rw[LH (y:=((p+1:Nat):Int)) (by rw[ae,aa,cond_true,ad,aq,av,aL,cond_false,aS,Un]),aR]
    conv=>rhs;rw[jH]
    rw[aL];rfl
  ·have hd:=(decode_high x p ak aI).1
   have aA:P ((Utf8.decode x p).1:Int) (p:Int)=true:=oe _ _ (by omega)
   have aW:P (aC x (p:Int)) (p:Int)=true:=oe _ _ (by rw[Mi ak];omega)
   refine⟨0,?_⟩
   unfold b4 jH;rw[ae,aa,cond_true,ad,aq,aA,aW];rfl
theorem Mj{P:Int→Int→Bool}(oe: ∀c i,128≤c→P c i=true){x:ByteArray}(s9:x.size<18446744073709551616):
 ∃(bP:Int→Prop) (dA:Int→Nat),bP 0∧dA 0<cn∧∀(d0:Int),bP d0→(b6.den .jm x d0=true→(P (b6.den .jn x d0) (b6.den .kr x d0)=false→bP (b6.den .h0 x d0)∧dA (b6.den .h0 x d0)<dA d0)):=by
 refine⟨fun d=>0≤d,fun d=>x.size-d.toNat,Int.le_refl _,by unfold cn;show x.size-(0:Int).toNat<_;omega,fun d hd aa ad=>?_⟩
 obtain⟨p,rfl⟩: ∃p:Nat,d=p:=⟨d.toNat,(Int.toNat_of_nonneg hd).symm⟩
 have ak:p<x.size:=by have:=of_decide_eq_true aa;rwa[Int.toNat_natCast]at this
 have aq:b6.den .kr x (p:Int)=(p:Int):=by show((p:Int).toNat:Int)=p;rw[Int.toNat_natCast]
 have AQ:b6.den .jn x (p:Int)=((Utf8.decode x p).1:Int):=by show((Utf8.decode x (p:Int).toNat).1:Int)=_;rw[Int.toNat_natCast]
 have aS:b6.den .h0 x (p:Int)=((p+(Utf8.decode x p).2:Nat):Int):=by show(((p:Int).toNat+(Utf8.decode x (p:Int).toNat).2:Nat):Int)=_;rw[Int.toNat_natCast]
 rcases Nat.lt_or_ge (x[p]'ak).toNat 128 with aI|aI
 ·have hd:=decode_ascii x p ak aI
  rw[aS,hd];refine⟨by show(0:Int)≤_;omega,?_⟩
  show x.size-(((p+1:Nat):Int)).toNat<x.size-((p:Int)).toNat;omega
 ·have hd:=(decode_high x p ak aI).1
  rw[AQ,aq,oe _ _ (by omega)]at ad
  cases ad
def mJ(c i:Int):Bool:=(!(decide (c≥97)&&decide (c≤122)))&&((i==0)||(((c != 95)&&(c != 45))&&((decide (c<48))||(decide (c>57)))))
theorem Mk(c i:Int)(h:128≤c):mJ c i=true:=by
 unfold mJ
 have aa:decide (c≤122)=false:=decide_eq_false (by omega)
 have ad:(c != 95)=true:=by simp;omega
 have aq:(c != 45)=true:=by simp;omega
 have aS:decide (c>57)=true:=decide_eq_true (by omega)
 simp only[aa,ad,aq,aS,Bool.and_false,Bool.not_false,Bool.and_true,Bool.or_true,Bool.true_and]
def valid(x:ByteArray):Bool:=bif((decide ((ByteArray.size x:Int)<1))||(decide ((ByteArray.size x:Int)>24)))then false else jH mJ x 0 x.size
theorem vl(x:ByteArray):kt x=valid x:=by
 unfold kt valid
 cases h:((decide ((ByteArray.size x:Int)<1))||(decide ((ByteArray.size x:Int)>24)))with
 |true=>rfl
 |false=>
  simp only[Bool.or_eq_false_iff,decide_eq_false_iff_not]at h;simp only[cond_false];obtain⟨v,av⟩:=ED Mk (x:=x) (b:=fun(aw:Int)=>bif b6.den .jm x aw then(bif mJ (b6.den .jn x aw) (b6.den .kr x aw)then Step.ret false else .bn (b6.den .h0 x aw))else .b8 aw) (fun _=>rfl) x.size 0 cn (by omega) (by unfold cn;omega)
  have:(b4 (fun(aw:Int)=>bif b6.den .jm x aw then(bif mJ (b6.den .jn x aw) (b6.den .kr x aw)then Step.ret false else .bn (b6.den .h0 x aw))else .b8 aw) cn 0:Bool⊕Int)=_:=av
  show Sum.elim _ _ (b4 (fun(aw:Int)=>bif b6.den .jm x aw then(bif mJ (b6.den .jn x aw) (b6.den .kr x aw)then Step.ret false else .bn (b6.den .h0 x aw))else .b8 aw) cn 0:Bool⊕Int)=_
  rw[this]
  cases jH mJ x 0 x.size<;>rfl
theorem AR(x:ByteArray):vm x:=by
 intro h
 simp only[Bool.or_eq_false_iff,decide_eq_false_iff_not]at h
 exact Mj Mk (x:=x) (by omega)
theorem Uo(x:ByteArray):tn x=valid x:=by
 unfold tn valid
 dsimp only
 cases h:((decide ((ByteArray.size x:Int)<1))||(decide ((ByteArray.size x:Int)>24)))with
 |true=>rfl
 |false=>
  simp only[cond_false];rw[Int.toNat_natCast];show Sum.elim _ _ (bL (fun(i6:Nat) (_:Unit)=>bif mJ (aC x (i6:Int)) (i6:Int)then(Step.ret false:Step Bool Unit)else .bn ()) 0 x.size ())=_
  rw[EC (P:=mJ) (x:=x) (fun _ _=>rfl)]
  cases jH mJ x 0 x.size<;>rfl
theorem Ml(x:ByteArray):AS x:=by
 intro h
 simp only[Bool.or_eq_false_iff,decide_eq_false_iff_not]at h
 omega
def pj(c _i:Int):Bool:=(decide (c<33))||(decide (c>126))
theorem Mm(c i:Int)(h:128≤c):pj c i=true:=by
 unfold pj
 rw[decide_eq_true (show c>126 by omega),Bool.or_true]
def seen(x:ByteArray):Bool:=jH pj x 0 x.size&&((decide ((ByteArray.size x:Int)≥1))&&(decide ((ByteArray.size x:Int)≤1000)))
theorem Up{x:ByteArray}(h:x.size<9223372036854775808):vn x=seen x:=by
 unfold vn seen
 obtain⟨v,av⟩:=ED Mm (x:=x) (b:=fun(aw:Int)=>bif b6.den .jm x aw then(bif pj (b6.den .jn x aw) (b6.den .kr x aw)then Step.ret false else .bn (b6.den .h0 x aw))else .b8 aw) (fun _=>rfl) x.size 0 cn (by omega) (by unfold cn;omega)
 have:(b4 (fun(aw:Int)=>bif b6.den .jm x aw then(bif pj (b6.den .jn x aw) (b6.den .kr x aw)then Step.ret false else .bn (b6.den .h0 x aw))else .b8 aw) cn 0:Bool⊕Int)=_:=av
 show Sum.elim _ _ (b4 (fun(aw:Int)=>bif b6.den .jm x aw then(bif pj (b6.den .jn x aw) (b6.den .kr x aw)then Step.ret false else .bn (b6.den .h0 x aw))else .b8 aw) cn 0:Bool⊕Int)=_
 rw[this]
 cases jH pj x 0 x.size<;>rfl
theorem Uq{x:ByteArray}(h:x.size<9223372036854775808):EE x:=Mj Mm (x:=x) (by omega)
theorem Ur(x:ByteArray):vo x=seen x:=by
 unfold vo seen
 dsimp only
 by_cases aa:(x.size:Int)<1
 ·rw[decide_eq_true aa,Bool.true_or,cond_true,decide_eq_false (show ¬(x.size:Int)≥1 by omega),Bool.false_and,Bool.and_false]
 ·by_cases ad:(x.size:Int)>1000
  ·rw[decide_eq_true ad,Bool.or_true,cond_true,decide_eq_false (show ¬(x.size:Int)≤1000 by omega),Bool.and_false,Bool.and_false]
  ·rw[decide_eq_false aa,decide_eq_false ad,Bool.or_false,cond_false,decide_eq_true (show(x.size:Int)≥1 by omega),decide_eq_true (show(x.size:Int)≤1000 by omega),Int.toNat_natCast]
   show Sum.elim _ _ (bL (fun(i6:Nat) (_:Unit)=>bif pj (aC x (i6:Int)) (i6:Int)then(Step.ret false:Step Bool Unit)else .bn ()) 0 x.size ())=_
   rw[EC (P:=pj) (x:=x) (fun _ _=>rfl)]
   cases jH pj x 0 x.size<;>rfl
theorem Us(x:ByteArray):EF x:=by
 intro h
 simp only[Bool.or_eq_false_iff,decide_eq_false_iff_not]at h
 omega
end Go.aM
namespace Go.aM
open Go Go.ed
theorem eY(a b:ByteArray):ByteArray.size (ByteArray.append a b)=a.size+b.size:=ByteArray.size_append
theorem di.p{n:Int}(h:di n):gX n:=⟨h.1,by have:=h.2;omega⟩
theorem mK{n:Int}(aa: -1099511627776≤n)(ad:n≤1099511627776):di n:=⟨by omega,by omega⟩
structure ql (v:bI):Prop where
 k:di v.kind
 n:di v.n
 s:bz v.s
theorem Mn{v:bI}(h:eU v≠0):l0 v=fH 0:=by
 unfold l0
 rw[show(eU v != 0)=true by simpa using h]
 rfl
theorem Ut{v:bI}(h:eU v≠0):tq v=hA 0:=by
 unfold tq
 rw[vi,show(eU v != 0)=true by simpa using h]
 rfl
theorem Mo{s:ByteArray}(h:s.size≤60):bz s:=by unfold bz;omega
theorem Mp(v:bI):tq v=l0 v:=by
 by_cases h:eU v=0
 ·have hc:kl v=0:=by rw[←qe];exact h
  unfold tq l0;rw[vi,show(eU v != 0)=false by simpa using h]
  rcases Em hc with⟨aa,ad,aq⟩|⟨aa,ad,aq,aS⟩|⟨aa,ad,aq⟩
  ·rw[aa]
   exact n9 (n:=0) (mK (by decide) (by decide))
  ·have hn:hA v.n=fH v.n:=n9 (mK aq aS)
   rcases aa with aa|aa|aa<;>rw[aa]<;>simp only[cond_false]<;>rw[hn]<;>rfl
  ·have ag:kS v.s=hB v.s:=pb (Mo aq)
   rw[aa];simp only[cond_false];rw[ag];rfl
 ·rw[Mn h,Ut h]
  exact n9 (n:=0) (mK (by decide) (by decide))
theorem Uu{s:ByteArray}(h:s.size≤60):(hB s).size≤70:=by
 rw[AG (Mo h),ByteArray.size_append]
 have:=vf (u:=gA s.size)
 omega
theorem bN:di 0:=mK (by decide) (by decide)
theorem Uv(v:bI):(l0 v).size≤80:=by
 have aU:=mD bN
 by_cases h:eU v=0
 ·have hc:kl v=0:=by rw[←qe];exact h
  unfold l0;rw[show(eU v != 0)=false by simpa using h]
  rcases Em hc with⟨aa,ad,aq⟩|⟨aa,ad,aq,aS⟩|⟨aa,ad,aq⟩
  ·rw[aa]
   show(fH 0).size≤80;omega
  ·have hn:=mD (mK aq aS)
   rcases aa with aa|aa|aa
   ·rw[aa]
    show(ByteArray.append (fH 1) (fH v.n)).size≤80;rw[eY]
    have:=mD (n:=1) (mK (by decide) (by decide))
    omega
   ·rw[aa]
    show(ByteArray.append (fH 2) (fH v.n)).size≤80;rw[eY]
    have:=mD (n:=2) (mK (by decide) (by decide))
    omega
   ·rw[aa]
    show(ByteArray.append (fH 3) (fH v.n)).size≤80;rw[eY]
    have:=mD (n:=3) (mK (by decide) (by decide))
    omega
  ·have ag:=Uu aq
   rw[aa];show(ByteArray.append (fH 4) (hB v.s)).size≤80;rw[eY]
   have:=mD (n:=4) (mK (by decide) (by decide))
   omega
 ·rw[Mn h]
  omega
def AT(k n:Int)(s:ByteArray)(b:Bool):Prop:=(b=true→(n8 n∧(fH k).size+(fH n).size≤9223372036854775807))∧(b=false→((k==4)=true→(rL s∧(fH k).size+(hB s).size≤9223372036854775807)))
theorem Uw{v:bI}(av:ql v):EG v:=by
 have key: ∀(k n:Int) (s:ByteArray),di k→di n→bz s→(n8 k)∧((k==1)=true→AT k n s (k==1))∧((k==1)=false→((k==2)=true→AT k n s (k==2))∧((k==2)=false→AT k n s (k==3))):=by
  intro k n s aj hn ag
  have bD:=mD aj
  have a2:=mD hn
  have a3:=vh ag
  have ai: ∀b,AT k n s b:=fun b=>⟨fun _=>⟨vg hn,by omega⟩,fun _ _=>⟨xH ag,by omega⟩⟩
  exact⟨vg aj,fun _=>ai _,fun _=>⟨fun _=>ai _,fun _=>ai _⟩⟩
 exact⟨fun _=>key 0 0 ⟨#[]⟩ bN bN (by unfold bz;exact Nat.zero_le _),fun _=>key v.kind v.n v.s av.k av.n av.s⟩
theorem Ux{v:bI}(av:ql v):EH v:=by
 have key: ∀(k n:Int) (s:ByteArray),di k→di n→bz s→((k==0)=true→lv 0)∧((k==0)=false→(((k==4)=true→(lv k∧rM s∧(hA k).size+(kS s).size≤9223372036854775807))∧((k==4)=false→(lv k∧lv n∧(hA k).size+(hA n).size≤9223372036854775807)))):=by
  intro k n s aj hn ag
  have bD:=mD aj
  have a2:=mD hn
  have a3:=vh ag
  rw[←n9 aj]at bD;rw[←n9 hn]at a2;rw[←pb ag]at a3;exact⟨fun _=>rK bN,fun _=>⟨fun _=>⟨rK aj,xI ag,by omega⟩,fun _=>⟨rK aj,rK hn,by omega⟩⟩⟩
 exact⟨fun _=>key 0 0 ⟨#[]⟩ bN bN (by unfold bz;exact Nat.zero_le _),fun _=>key v.kind v.n v.s av.k av.n av.s⟩
structure ly (q:dI):Prop where
 k:di q.kind
 n:di q.cY
 d:di q.key.dev
 c:bz q.key.bp
 a:bz q.key.attr
 m:bz q.name
 v:ql q.value
 t:bz q.text
theorem Mq{q:dI}(h:ly q):l1 q=eZ q:=by
 unfold l1 eZ
 rw[n9 h.k,n9 h.n,n9 h.d,pb h.c,pb h.a,pb h.m,Mp,pb h.t]
theorem AU{q:dI}(h:ly q):(fH q.kind).size≤10∧(fH q.cY).size≤10∧(fH q.key.dev).size≤10∧(hB q.key.bp).size≤140737488351242∧(hB q.key.attr).size≤140737488351242∧(hB q.name).size≤140737488351242∧(l0 q.value).size≤80∧(hB q.text).size≤140737488351242:=
 ⟨mD h.k,mD h.n,mD h.d,vh h.c,vh h.a,vh h.m,Uv _,vh h.t⟩
theorem xQ{q:dI}(h:ly q):dC (eZ q):=by
 obtain⟨aa,ad,aq,aS,bC,cC,dB,fc⟩:=AU h
 have EI:(l0 ⟨q.value.kind,q.value.n,q.value.s⟩).size≤80:=dB
 unfold dC eZ
 simp only[eY]
 omega
theorem Mr{q:dI}(h:ly q):AV q:=by
 obtain⟨aa,ad,aq,aS,bC,cC,dB,fc⟩:=AU h
 have EI:(l0 ⟨q.value.kind,q.value.n,q.value.s⟩).size≤80:=dB
 refine⟨vg h.k,vg h.n,?_,vg h.d,?_,xH h.c,?_,xH h.a,?_,xH h.m,?_,Uw h.v,?_,xH h.t,?_⟩<;>(try simp only[eY])<;>omega
theorem Uy{q:dI}(h:ly q):EJ q:=by
 obtain⟨aa,ad,aq,aS,bC,cC,dB,fc⟩:=AU h
 have EI:(l0 ⟨q.value.kind,q.value.n,q.value.s⟩).size≤80:=dB
 refine⟨rK h.k,rK h.n,?_,rK h.d,?_,xI h.c,?_,xI h.a,?_,xI h.m,?_,Ux h.v,?_,xI h.t,?_⟩<;>(try simp only[eY,n9 h.k,n9 h.n,n9 h.d,pb h.c,pb h.a,pb h.m,Mp,pb h.t])<;>omega
end Go.aM
namespace Go.aM
open Go Go.ed
theorem qm(x:ByteArray)(z:Int): ∃n:Nat,aC x z=(n:Int)∧n<256:=⟨_,rfl,UInt8.toNat_lt _⟩
noncomputable def qn(c:Int):List Int:=db.den .eu (lz c)
theorem Uz: ∀n:Nat,n<256→(bif(((n:Int)==34)||((n:Int)==92))then[92,(n:Int)]else bif((decide ((n:Int)<32))||(decide ((n:Int)>126)))then[92,120,(tr (ba .quo .u8 (n:Int) (16:Int))),(tr (n:Int))]else[(n:Int)])=qn (n:Int):=by decide+kernel
theorem Ms: ∀n:Nat,n<256→(qn (n:Int)).length≤4:=by decide+kernel
theorem UA: ∀n:Nat,n<256→(0≤ba .shr .u8 (n:Int) 4∧ba .shr .u8 (n:Int) 4≤IntKind.wrap .u8 (ba .shr .u8 (n:Int) 4+1)∧IntKind.wrap .u8 (ba .shr .u8 (n:Int) 4+1)≤16)∧
 (0≤ba .and .u8 (n:Int) 15∧ba .and .u8 (n:Int) 15≤IntKind.wrap .u8 (ba .and .u8 (n:Int) 15+1)∧IntKind.wrap .u8 (ba .and .u8 (n:Int) 15+1)≤16):=by decide+kernel
theorem UB: ∀n:Nat,n<256→(0≤ba .rem .u8 (n:Int) 16∧ba .rem .u8 (n:Int) 16<16)∧(0≤ba .rem .u8 (ba .quo .u8 (n:Int) 16) 16∧ba .rem .u8 (ba .quo .u8 (n:Int) 16) 16<16):=by decide+kernel
theorem AW{b:ByteArray}{a c:Option Int}:(bk b a c).size≤b.size:=by
 cases a<;>cases c<;>simp only[bk,ByteArray.size_extract]<;>omega
theorem EK{n:Nat}(h:n<256):tt (n:Int):=by
 obtain⟨aa,ad⟩:=UA n h
 have aA:ByteArray.size (⟨#[48,49,50,51,52,53,54,55,56,57,97,98,99,100,101,102]⟩:ByteArray)=16:=rfl
 have aW:ByteArray.size (⟨#[92,120]⟩:ByteArray)=2:=rfl
 have cr:ByteArray.size (⟨#[92]⟩:ByteArray)=1:=rfl
 refine⟨fun _=>?_,fun _ _=>⟨?_,?_,?_,?_⟩⟩
 ·rw[cr]
  show 1+(bytesOf [(n:Int)]).size≤_;rw[vc];show 1+1≤_;omega
 ·rw[aA]
  exact aa
 ·rw[aW]
  have:=AW (b:=⟨#[48,49,50,51,52,53,54,55,56,57,97,98,99,100,101,102]⟩) (a:=some (ba .shr .u8 (n:Int) 4)) (c:=some (IntKind.wrap .u8 (ba .shr .u8 (n:Int) 4+1)))
  rw[aA]at this;omega
 ·rw[aA]
  exact ad
 ·have bD:=AW (b:=⟨#[48,49,50,51,52,53,54,55,56,57,97,98,99,100,101,102]⟩) (a:=some (ba .shr .u8 (n:Int) 4)) (c:=some (IntKind.wrap .u8 (ba .shr .u8 (n:Int) 4+1)))
  have a2:=AW (b:=⟨#[48,49,50,51,52,53,54,55,56,57,97,98,99,100,101,102]⟩) (a:=some (ba .and .u8 (n:Int) 15)) (c:=some (IntKind.wrap .u8 (ba .and .u8 (n:Int) 15+1)))
  rw[aA]at bD a2;rw[eY,aW];omega
def og(f:Nat→List Int):Nat→Nat→List Int
 |_,0=>[]
 |k,n+1=>f k++og f (k+1) n
theorem xR{R:Type}{f:Nat→List Int}{b:Nat→List Int→Step R (List Int)}: ∀(n k:Nat) (a:List Int),(∀i v,i<k+n→b i v= .bn (v++f i))→bL b k n a= .inr (a++og f k n)
 |0,_,a,_=>by rw[og,List.append_nil];rfl
 |n+1,k,a,h=>by
  unfold bL;rw[h k a (by omega)]
  show bL b (k+1) n (a++f k)=_;rw[xR n (k+1) (a++f k) (fun i v hi=>h i v (by omega)),og,List.append_assoc]
theorem UC:db.den .eu (⟨#[34]⟩:ByteArray)=[34]:=rfl
noncomputable def mL(x:ByteArray):ByteArray:=bytesOf (([34]++og (fun i=>qn (aC x (i:Int))) 0 x.size)++[34])
theorem EL(x:ByteArray):AX x=mL x:=by
 unfold AX mL
 dsimp only
 rw[Int.toNat_natCast,UC]
 show Sum.elim _ _ (bL (fun(i4:Nat) (aw:List Int)=>(Step.bn (aw++qn (aC x (i4:Int))):Step ByteArray (List Int))) 0 x.size [34])=_
 rw[xR (f:=fun i=>qn (aC x (i:Int))) x.size 0 [34] (fun i v _=>rfl)]
 rfl
theorem Mt(x:ByteArray):vp x=mL x:=by
 unfold vp mL
 dsimp only
 rw[Int.toNat_natCast,xR (f:=fun i=>qn (aC x (i:Int))) x.size 0 [34] (fun i v _=>?_)]
 ·rfl
 ·obtain⟨n,hn,h⟩:=qm x (i:Int)
  have aL:=Uz n h
  rw[hn];rw[←aL]
  cases (((n:Int)==34)||((n:Int)==92))with
  |true=>rfl
  |false=>
   simp only[cond_false]
   cases ((decide ((n:Int)<32))||(decide ((n:Int)>126)))<;>rfl
theorem UD{x:ByteArray}(h:x.size≤1000000):EM x:=by
 have UE:(db.den .eu (⟨#[34]⟩:ByteArray)).length=1:=rfl
 refine⟨⟨?_,?_⟩,⟨by omega,by omega⟩,fun i d=>d.length≤1+4*i,?_,fun i d hi hd=>?_,fun c hc=>?_⟩
 ·show 0+1≤maxLen;unfold maxLen;omega
 ·show(0+1)*1≤_;omega
 ·show(db.den .eu (⟨#[34]⟩:ByteArray)).length≤1+4*0;rw[UE];omega
 ·obtain⟨n,hn,ae⟩:=qm x (i:Int)
  have hi:i<x.size:=by rwa[Int.toNat_natCast]at hi
  have hd:d.length≤1+4*i:=hd
  have ao:(db.den .eu (lz (aC x (i:Int)))).length≤4:=by rw[hn];exact Ms n ae
  refine⟨by rw[hn];exact EK ae,⟨?_,?_⟩,?_⟩
  ·show d.length+(db.den .eu (lz (aC x (i:Int)))).length≤maxLen;unfold maxLen;omega
  ·show(d.length+(db.den .eu (lz (aC x (i:Int)))).length)*1≤_;omega
  ·show(d++db.den .eu (lz (aC x (i:Int)))).length≤1+4*(i+1)
   rw[List.length_append];omega
 ·have hc:c.length≤1+4*Int.toNat (x.size:Int):=hc
  rw[Int.toNat_natCast]at hc;refine⟨?_,?_⟩
  ·show c.length+1≤maxLen;unfold maxLen;omega
  ·show(c.length+1)*1≤_;omega
theorem Mu{z:Int}(h:0≤ba .rem .u8 z 16∧ba .rem .u8 z 16<16):AY z:=h
theorem Mv{x:ByteArray}(h:x.size≤1000000):AZ x:=by
 refine⟨⟨by omega,by omega⟩,fun i d=>d.length≤1+4*i,by show 1≤1+4*0;omega,fun i d hi hd=>?_,fun c hc=>?_⟩
 ·obtain⟨n,hn,ae⟩:=qm x (i:Int)
  have hi:i<x.size:=by rwa[Int.toNat_natCast]at hi
  have hd:d.length≤1+4*i:=hd
  obtain⟨hO,lA⟩:=UB n ae
  have key: ∀l:List Int,l.length≤4→(List.length d+List.length l≤maxLen∧(List.length d+List.length l)*1≤140737488355328)∧(List.append d l).length≤1+4*(i+1):=fun l ao=>by
   refine⟨⟨by unfold maxLen;omega,by omega⟩,?_⟩
   show(d++l).length≤_;rw[List.length_append];omega
  intro ay;dsimp only;refine⟨fun _=>key _ (by simp),fun _=>⟨fun _=>⟨by rw[hn];exact Mu lA,by rw[hn];exact Mu hO,?_⟩,fun _=>key _ (by simp)⟩⟩
  exact key _ (by simp)
 ·have hc:c.length≤1+4*Int.toNat (x.size:Int):=hc
  rw[Int.toNat_natCast]at hc;refine⟨?_,?_⟩
  ·show c.length+1≤maxLen;unfold maxLen;omega
  ·show(c.length+1)*1≤_;omega
theorem EN(v:bI):pk v=fT v:=by
 by_cases h:eU v=0
 ·have hc:kl v=0:=by rw[←qe];exact h
  unfold pk fT;rw[vi,show(eU v != 0)=false by simpa using h]
  rcases Em hc with⟨aa,ad,aq⟩|⟨aa,ad,aq,aS⟩|⟨aa,ad,aq⟩
  ·rw[aa];rfl
  ·rcases aa with aa|aa|aa<;>rw[aa]<;>rfl
  ·rw[aa,EL,Mt];rfl
 ·unfold pk fT
  rw[vi,show(eU v != 0)=true by simpa using h]
  rfl
theorem nC(n:Int):(fe n).size≤21:=EO n
theorem Mw{v:bI}(hn:di v.n):A0 v:=by
 have:=nC v.n
 have EP:ByteArray.size (⟨#[35]⟩:ByteArray)=1:=rfl
 refine fun hc _=>⟨fun _=>hn.p,fun _=>⟨fun _=>⟨hn.p,?_⟩,fun _ aS=>?_⟩⟩
 ·rw[EP];omega
 ·have hc:kl v=0:=by rw[←qe];exact Ay hc
  have:=xE hc
  exact UD (by omega)
theorem Mx{v:bI}(hn:di v.n):A1 v:=by
 have:=EO v.n
 have EP:ByteArray.size (⟨#[35]⟩:ByteArray)=1:=rfl
 refine fun hc _ _=>⟨fun _=>hn.p,fun _=>⟨fun _=>⟨hn.p,?_⟩,fun _=>?_⟩⟩
 ·rw[EP]
  show 1+(fN v.n).size≤_;omega
 ·rw[vi]at hc
  have hc:kl v=0:=by rw[←qe];exact Ay hc
  have:=xE hc
  exact Mv (by omega)
theorem ER{f:Nat→List Int}{c:Nat}: ∀(n k:Nat),(∀i,(f i).length≤c)→(og f k n).length≤c*n
 |0,_,_=>by simp[og]
 |n+1,k,h=>by
  have aa:=h k
  have ad:=ER n (k+1) h
  rw[og,List.length_append,Nat.mul_succ];omega
theorem UF(x:ByteArray):(mL x).size≤4*x.size+2:=by
 unfold mL
 rw[vc,List.length_append,List.length_append]
 have:=ER (f:=fun i=>qn (aC x (i:Int))) (c:=4) x.size 0 (fun i=>by
  obtain⟨n,hn,h⟩:=qm x (i:Int);show(qn (aC x (i:Int))).length≤4;rw[hn]
  exact Ms n h)
 simp
 omega
theorem ES(v:bI):(fT v).size≤250:=by
 by_cases h:eU v=0
 ·have hc:kl v=0:=by rw[←qe];exact h
  have hd:=nC v.n
  have aL:=UF v.s
  have ag:=xE hc
  unfold fT;simp only[cond_eq_ite]
  repeat' split
  all_goals first
   |decide
   |omega
   |(rw[eY];show 1+(fe v.n).size≤250;omega)
   |(rw[EL];omega)
 ·unfold fT
  rw[show(eU v != 0)=true by simpa using h]
  exact Nat.zero_le _
end Go.aM
