/- Numbers, texts, values, readers: the spec functions. Conditions: none. -/
import Derived.Test.YtmkpmgfieagphaaGreatDoorQTEk
import Derived.Laws.RangeString
import Derived.Laws.RangeAny
import Derived.Laws.BitsAllLaws
import Derived.Laws.DeepNot64
import Derived.Test.YtmkpmgfieagphaaGreatDoorQPm
import Derived.Test.YtmkpmgfieagphaaGreatDoorQPg
namespace Go.aL
open Go Go.aL Go.ei
abbrev dC:=cd
def p4(s:ByteArray)(kK:Nat)(p5:Int):Step (Int × Int × Int) (Int):=
 match p5 with
 |(p6)=>(match(s.data.toList)[kK]? with|some mo=>(bif((decide ((kK:Int)>0)&&((mo.toNat:Int)==0))||(((kK:Int)==9)&&decide ((mo.toNat:Int)>1)))then .ret (0,0,4)else(bif decide ((mo.toNat:Int)<128)then .ret (kL .u64 p6 (IntKind.u64.wrap ((IntKind.u64.wrap (ln .u8 (mo.toNat:Int) 127))*2^(min (IntKind.i64.wrap (7*(kK:Int))).toNat 64))),((kK+1:Nat):Int),0)else .bx (kL .u64 p6 (IntKind.u64.wrap ((IntKind.u64.wrap (ln .u8 (mo.toNat:Int) 127))*2^(min (IntKind.i64.wrap (7*(kK:Int))).toNat 64))))))|none=>.bx p5)
def xn(s:ByteArray)(p5:Int):(Int × Int × Int)⊕(Int):=bV (p4 s) 0 s.size p5
def jy(s:ByteArray):Int × Int × Int:=
 (match(xn s (0))with| .inl DV=>DV| .inr (p6)=>(0,0,5))
def jz(r:Rd):(Int):=
 (bif !r.made then 15 else r.err)
def cU(r:Rd):(Int × Rd):=
 (bif((jz r) != 0)then(0,r)else(bif((((jy r.rest).2).2) != 0)then(0,(⟨r.rest,(((jy r.rest).2).2),r.made⟩:Rd))else(jf .i64 (IntKind.i64.wrap (((jy r.rest).1).fdiv 2)) (IntKind.i64.wrap (0-IntKind.i64.wrap (ln .u64 ((jy r.rest).1) 1))),(⟨r.rest.extract ((((jy r.rest).2).1).toNat) r.rest.size,r.err,r.made⟩:Rd))))
def gi(r:Rd)(n:Int):(Int × Rd):=
 (bif((jz ((cU r).2)) != 0)then(0,((cU r).2))else(bif decide ((cU r).1<0)then(0,(⟨((cU r).2).rest,4,((cU r).2).made⟩:Rd))else(bif decide ((cU r).1>(if 0>n then 0 else n))then(0,(⟨((cU r).2).rest,3,((cU r).2).made⟩:Rd))else((cU r).1,((cU r).2)))))
def iE(r:Rd)(n:Int):(ByteArray × Rd):=
 (bif((jz ((gi r n).2)) != 0)then(⟨#[]⟩,((gi r n).2))else(bif decide ((gi r n).1>(((((gi r n).2).rest).size:Nat):Int))then(⟨#[]⟩,(⟨((gi r n).2).rest,5,((gi r n).2).made⟩:Rd))else((((gi r n).2).rest).extract 0 (((gi r n).1).toNat),(⟨(((gi r n).2).rest).extract (((gi r n).1).toNat) (((gi r n).2).rest).size,((gi r n).2).err,((gi r n).2).made⟩:Rd))))
def ry(r:Rd)(e:Int):(Rd):=
 (bif((jz r)==0)then(⟨r.rest,e,r.made⟩:Rd)else r)
def DW(r:Rd):(Int):=
 (bif((jz r) != 0)then 0 else(r.rest.size:Int))
def o0(r:Rd):(Int):=
 (bif decide ((DW r)>0)then 23 else(jz r))
def xo(n:Int):Bool:=
 (decide (n≥ -1099511627776)&&decide (n≤1099511627776))
def kf(v:bH):Int:=
 (bif(((v.kind==0)||(v.kind==4))||((v.kind==1)||((v.kind==2)||(v.kind==3))))then(bif !(bif((v.kind==0)||(v.kind==4))then(v.n==0)else(bif(v.kind==1)then((v.n==0)||(v.n==1))else(bif(v.kind==2)then xo v.n else(decide (v.n≥0)&&decide (v.n≤63)))))then 2 else(bif decide ((v.s.size:Int)>60)then 3 else(bif(!bn v.s (⟨#[]⟩)&&(v.kind != 4))then 4 else 0)))else 7)
def rz(v:bH):Int:=
 (bif(((v.kind==0)||(v.kind==4))||((v.kind==1)||((v.kind==2)||(v.kind==3))))then(bif(decide (v.n<(bif(((v.kind==0)||(v.kind==4))||((v.kind==1)|| !(v.kind==2)))then 0 else -1099511627776))||decide (v.n>(bif((v.kind==0)||(v.kind==4))then 0 else(bif(v.kind==1)then 1 else(bif(v.kind==2)then 1099511627776 else 63)))))then 2 else(bif decide ((v.s.size:Int)>60)then 3 else(bif(!bn v.s (⟨#[]⟩)&&(v.kind != 4))then 4 else 0)))else 7)
def sV(r:Rd):bH:=(bif(((cU r).1==1)||(((cU r).1==2)||((cU r).1==3)))then(⟨(cU r).1,(cU ((cU r).2)).1,⟨#[]⟩⟩:bH)else(bif((cU r).1==4)then(⟨(cU r).1,0,(iE ((cU r).2) 60).1⟩:bH)else(⟨(cU r).1,0,⟨#[]⟩⟩:bH)))
def sW(r:Rd):Rd:=(bif(((cU r).1==1)||(((cU r).1==2)||((cU r).1==3)))then((cU ((cU r).2)).2)else(bif((cU r).1==4)then((iE ((cU r).2) 60).2)else((cU r).2)))
def rA(r:Rd):Rd:=(bif(kf (sV r) != 0)then(ry (sW r) 4)else(sW r))
def o1(r:Rd):(bH × Rd):=
 (bif((jz (rA r)) != 0)then((⟨0,0,⟨#[]⟩⟩:bH),(rA r))else((sV r),(rA r)))
def fU(r:dC):(Int):=
 (bif !r.made then 15 else r.bad)
def nr(r:dC)(kK:Nat)(p5:Int):Step (Int × dC) (Int):=
 match p5 with
 |(p6)=>(bif decide (IntKind.i64.wrap (r.at_+(kK:Int))≥(r.s.size:Int))then .ret (0,(⟨r.s,r.at_,5,r.made⟩:dC))else(match(r.s.data.toList)[(IntKind.i64.wrap (r.at_+(kK:Int))).toNat]? with|some mo=>(bif((decide ((kK:Int)>0)&&((mo.toNat:Int)==0))||(((kK:Int)==9)&&decide ((mo.toNat:Int)>1)))then .ret (0,(⟨r.s,r.at_,4,r.made⟩:dC))else(bif decide ((mo.toNat:Int)<128)then .ret ((bif((kL .u64 p6 (IntKind.u64.wrap ((IntKind.u64.wrap ((mo.toNat:Int).tmod 128))*2^(min (IntKind.i64.wrap (7*(kK:Int))).toNat 64)))).tmod 2==1)then IntKind.i64.wrap (-1-IntKind.i64.wrap ((kL .u64 p6 (IntKind.u64.wrap ((IntKind.u64.wrap ((mo.toNat:Int).tmod 128))*2^(min (IntKind.i64.wrap (7*(kK:Int))).toNat 64)))).fdiv 2))else IntKind.i64.wrap ((kL .u64 p6 (IntKind.u64.wrap ((IntKind.u64.wrap ((mo.toNat:Int).tmod 128))*2^(min (IntKind.i64.wrap (7*(kK:Int))).toNat 64)))).fdiv 2)),(⟨r.s,IntKind.i64.wrap (IntKind.i64.wrap (r.at_+(kK:Int))+1),r.bad,r.made⟩:dC))else .bx (kL .u64 p6 (IntKind.u64.wrap ((IntKind.u64.wrap ((mo.toNat:Int).tmod 128))*2^(min (IntKind.i64.wrap (7*(kK:Int))).toNat 64))))))|none=>.bx p5))
def DX(r:dC)(p5:Int):(Int × dC)⊕(Int):=bV (nr r) 0 10 p5
def c9(r:dC):(Int × dC):=
 (bif((fU r) != 0)then(0,r)else(match(DX r (0))with| .inl DV=>DV| .inr (p6)=>(0,r)))
def dc(r:dC)(n:Int):(Int × dC):=
 (bif((fU ((c9 r).2)) != 0)then(0,((c9 r).2))else(bif decide ((c9 r).1<0)then(0,(⟨((c9 r).2).s,((c9 r).2).at_,4,((c9 r).2).made⟩:dC))else(bif decide ((c9 r).1>(bif decide (n<0)then 0 else n))then(0,(⟨((c9 r).2).s,((c9 r).2).at_,3,((c9 r).2).made⟩:dC))else((c9 r).1,((c9 r).2)))))
def lp(r:dC)(n:Int):(ByteArray × dC):=
 (bif((fU ((dc r n).2)) != 0)then(⟨#[]⟩,((dc r n).2))else(bif decide ((dc r n).1>IntKind.i64.wrap ((((((dc r n).2).s).size:Nat):Int)-((dc r n).2).at_))then(⟨#[]⟩,(⟨((dc r n).2).s,((dc r n).2).at_,5,((dc r n).2).made⟩:dC))else((((dc r n).2).s).extract ((((dc r n).2).at_).toNat) ((((dc r n).2).at_+(dc r n).1).toNat),(⟨((dc r n).2).s,IntKind.i64.wrap (((dc r n).2).at_+(dc r n).1),((dc r n).2).bad,((dc r n).2).made⟩:dC))))
def mq(r:dC):bH:=(bif((c9 r).1==4)then(⟨(c9 r).1,0,(lp ((c9 r).2) 60).1⟩:bH)else(⟨(c9 r).1,0,⟨#[]⟩⟩:bH))
def sX(r:dC):dC:=(bif((c9 r).1==4)then((lp ((c9 r).2) 60).2)else((c9 r).2))
def o2(r:dC):dC:=(bif(decide ((mq r).kind≥1)&&decide ((mq r).kind≤3))then((c9 (sX r)).2)else(sX r))
def sY(r:dC):bH:=(bif(decide ((mq r).kind≥1)&&decide ((mq r).kind≤3))then(⟨(mq r).kind,(c9 (sX r)).1,(mq r).s⟩:bH)else(mq r))
def xp(r:dC)(e:Int):(dC):=
 (bif((fU r)==0)then(⟨r.s,r.at_,e,r.made⟩:dC)else r)
def sZ(r:dC):dC:=(bif(((fU (o2 r))==0)&&(rz (sY r) != 0))then(xp (o2 r) 4)else(o2 r))
def u1(r:dC):(bH × dC):=
 (bif((fU (sZ r)) != 0)then((⟨0,0,⟨#[]⟩⟩:bH),(sZ r))else((sY r),(sZ r)))
def Ao(r:dC):(Int):=
 (bif((fU r) != 0)then(fU r)else(bif decide (r.at_<(r.s.size:Int))then 23 else 0))
def K7(s:ByteArray):Rd:=(⟨s,0,true⟩:Rd)
def K8(s:ByteArray):dC:=(⟨s,0,0,true⟩:dC)
def jg(r:dC):Prop:=0≤r.at_∧r.at_≤(r.s.size:Int)∧r.s.size≤4611686018427387904
open Classical in
theorem Ap{a:Int}(h:(a != 0)=false):a=0:=by simpa using h
theorem SY{α:Type}{p q:Prop}[Decidable p][Decidable q]{a b:α}(h:p↔q):(if p then a else b)=if q then a else b:=by
 by_cases ak:p
 ·rw[if_pos ak,if_pos (h.1 ak)]
 ·rw[if_neg ak,if_neg fun aJ=>ak (h.2 aJ)]
theorem K9{α:Type}{p q:Prop}[Decidable p][Decidable q]{a b:α}(h:p↔¬q):(if p then a else b)=if q then b else a:=by
 by_cases aJ:q
 ·rw[if_pos aJ,if_neg fun ak=>h.1 ak aJ]
 ·rw[if_neg aJ,if_pos (h.2 aJ)]
theorem La(v:bH):kf v=rz v:=by
 unfold kf rz xo
 simp only[cond_eq_ite]
 by_cases aS:v.kind=0
 ·simp[aS]
  apply K9;omega
 by_cases aT:v.kind=4
 ·simp[aT]
  apply K9;omega
 by_cases aa:v.kind=1
 ·simp[aa]
  apply SY;omega
 by_cases ae:v.kind=2
 ·simp[ae]
 by_cases aq:v.kind=3
 ·simp[aq]
 ·simp[aS,aa,ae,aq,aT]
end Go.aL
namespace Go.aL
open Go Go.aL Go.ei
def kM:Nat→Nat→List Nat
 |0,u=>[u]
 |f+1,u=>if u<128 then[u]else(u%128+128)::kM f (u/ 128)
def gw(n:Int):Nat:=if 0≤n then(2*n).toNat else(-2*n-1).toNat
def xq(u:Nat):Int:=if u%2=0 then((u/ 2:Nat):Int)else -1-((u/ 2:Nat):Int)
def df(n:Int):Prop:= -9223372036854775808≤n∧n<9223372036854775808
theorem p7{n:Int}(h:df n):gw n<18446744073709551616:=by
 unfold df at h
 unfold gw
 split<;>omega
theorem rB(n:Int):IntKind.u64.wrap n=n%18446744073709551616:=by simp[IntKind.wrap,IntKind.bits,IntKind.signed]
theorem DY(a b:Nat)(aK:a<18446744073709551616)(ad:b<18446744073709551616):jf .u64 (a:Int) (b:Int)=((a ^^^ b:Nat):Int):=u64_xor_nat a b aK ad
theorem SZ(a b:Nat)(aK:a<18446744073709551616)(ad:b<18446744073709551616):kL .u64 (a:Int) (b:Int)=((a ||| b:Nat):Int):=u64_or_nat a b aK ad
theorem S1(a b:Nat)(aK:a<18446744073709551616)(ad:b<18446744073709551616):ln .u64 (a:Int) (b:Int)=((a &&& b:Nat):Int):=u64_and_nat a b aK ad
theorem S2(a b:Nat)(aK:a<256)(ad:b<256):kL .u8 (a:Int) (b:Int)=((a ||| b:Nat):Int):=u8_or_nat a b aK ad
theorem Lb(a b:Nat)(aK:a<256)(ad:b<256):ln .u8 (a:Int) (b:Int)=((a &&& b:Nat):Int):=u8_and_nat a b aK ad
theorem Lc(a:Nat)(aK:a<18446744073709551616):a ^^^ 18446744073709551615=18446744073709551615-a:=by
 have h:(BitVec.ofNat 64 a ^^^ BitVec.allOnes 64)= ~~~(BitVec.ofNat 64 a):=by rw[BitVec.xor_allOnes]
 have ae:=congrArg BitVec.toNat h
 rw[BitVec.toNat_not,BitVec.toNat_xor,BitVec.toNat_ofNat,BitVec.toNat_allOnes,Nat.mod_eq_of_lt aK]at ae
 exact ae
theorem S3{n:Int}(h:df n):jf .u64 (IntKind.u64.wrap (IntKind.u64.wrap n*2)) (IntKind.u64.wrap (n.fdiv 9223372036854775808))=((gw n:Nat):Int):=by
 obtain⟨aa,ae⟩:=h
 rw[rB,rB,rB,Int.fdiv_eq_ediv_of_nonneg _ (by decide)]
 by_cases hn:0≤n
 ·have ay:n%18446744073709551616*2%18446744073709551616=((gw n:Nat):Int):=by unfold gw;rw[if_pos hn];omega
  have aV:n/ 9223372036854775808%18446744073709551616=((0:Nat):Int):=by omega
  rw[ay,aV,DY _ _ (p7 ⟨aa,ae⟩) (by decide),Nat.xor_zero]
 ·have ay:n%18446744073709551616*2%18446744073709551616=((18446744073709551615-gw n:Nat):Int):=by unfold gw;rw[if_neg hn];omega
  have aV:n/ 9223372036854775808%18446744073709551616=((18446744073709551615:Nat):Int):=by omega
  have br:=p7 ⟨aa,ae⟩
  rw[ay,aV,DY _ _ (by omega) (by decide),Lc _ (by omega)]
  omega
theorem Ld{n:Int}(h:df n):(bif decide (n<0)then jf .u64 18446744073709551615 (IntKind.u64.wrap (IntKind.u64.wrap n*2))else IntKind.u64.wrap (IntKind.u64.wrap n*2))=((gw n:Nat):Int):=by
 obtain⟨aa,ae⟩:=h
 rw[rB,rB]
 by_cases hn:0≤n
 ·have lV:decide (n<0)=false:=decide_eq_false (by omega)
  rw[lV];show n%18446744073709551616*2%18446744073709551616=((gw n:Nat):Int);unfold gw;rw[if_pos hn];omega
 ·have lV:decide (n<0)=true:=decide_eq_true (by omega)
  have ay:n%18446744073709551616*2%18446744073709551616=((18446744073709551615-gw n:Nat):Int):=by unfold gw;rw[if_neg hn];omega
  have br:=p7 ⟨aa,ae⟩
  rw[lV,cond_true,ay,show(18446744073709551615:Int)=((18446744073709551615:Nat):Int)from rfl,DY _ _ (by decide) (by omega),Nat.xor_comm,Lc _ (by omega)]
  omega
theorem S4: ∀a,a<256→a ||| 128=a%128+128:=by decide+kernel
theorem S5(u:Nat):kL .u8 (IntKind.u8.wrap (u:Int)) 128=((u%128+128:Nat):Int):=by
 have e:IntKind.u8.wrap (u:Int)=((u%256:Nat):Int):=by rw[IntKind.wrap_u8'];omega
 rw[e,show(128:Int)=((128:Nat):Int)from rfl,S2 _ _ (by omega) (by decide),S4 _ (by omega)]
 omega
theorem S6(u:Nat):IntKind.u8.wrap (IntKind.u8.wrap ((u:Int).tmod 128)+128)=((u%128+128:Nat):Int):=by
 rw[Int.tmod_eq_emod_of_nonneg (by omega),IntKind.wrap_u8',IntKind.wrap_u8']
 omega
theorem Le{R A:Type}{b:A→Step R A}{f:Nat}{x y:A}(h:b x= .b7 y):b9 b (f+1) x= .inr y:=by
 unfold b9
 rw[h]
theorem Lf{R A:Type}{b:A→Step R A}{f:Nat}{x y:A}(h:b x= .bx y):b9 b (f+1) x=b9 b f y:=by
 conv=>lhs;unfold b9
 rw[h]
def kg(u:Nat):ByteArray:=bytesOf ((kM 9 u).map fun b:Nat=>(b:Int))
theorem Lg: ∀(l:List Int) (s:ByteArray),(l.foldl (fun r n=>r.push (UInt8.ofNat n.toNat)) s).data.toList=s.data.toList++l.map fun n=>UInt8.ofNat n.toNat
 |[],s=>by simp
 |n::l,s=>by
  rw[List.foldl_cons,Lg l,ByteArray.data_push,Array.toList_push,List.map_cons,List.append_assoc,List.singleton_append]
theorem Aq(l:List Int):(bytesOf l).data.toList=l.map fun n=>UInt8.ofNat n.toNat:=by
 unfold bytesOf
 rw[Lg]
 rfl
theorem u2(l:List Int):(bytesOf l).size=l.length:=by
 have h:=congrArg List.length (Aq l)
 rw[List.length_map,Array.length_toList]at h
 exact h
theorem o3{a b:ByteArray}(h:a.data.toList=b.data.toList):a=b:=ByteArray.ext (Array.toList_inj.1 h)
def xr(l:List Nat):List UInt8:=l.map UInt8.ofNat
theorem S7(u:Nat):(kg u).data.toList=xr (kM 9 u):=by
 unfold kg xr
 rw[Aq,List.map_map]
 rfl
theorem S8(f u:Nat):(kM f u).length≤f+1:=by
 induction f generalizing u with
 |zero=>exact Nat.le_refl _
 |succ f aQ=>
  unfold kM
  split
  ·simp
  ·have:=aQ (u/ 128)
   simp only[List.length_cons];omega
theorem Lh(u:Nat):(kg u).size=(kM 9 u).length:=by
 unfold kg
 rw[u2,List.length_map]
theorem DZ(k:Nat):128^k=2^(7*k):=by rw[Nat.pow_mul]
theorem Li{k acc c:Nat}(aj:k≤9)(hc:c<256)(aK:acc<128^k)(hd:c%128*128^k<18446744073709551616):
 kL .u64 (acc:Int) (IntKind.u64.wrap ((IntKind.u64.wrap (ln .u8 (c:Int) 127))*2^(min (IntKind.i64.wrap (7*(k:Int))).toNat 64)))=((acc+c%128*128^k:Nat):Int):=by
 have ay:ln .u8 (c:Int) 127=((c%128:Nat):Int):=by
  rw[show(127:Int)=((127:Nat):Int)from rfl,Lb _ _ hc (by decide),nat_mask7]
 have aV:min (IntKind.i64.wrap (7*(k:Int))).toNat 64=7*k:=by
  rw[dw _ (by omega) (by omega)]
  omega
 have ct:IntKind.u64.wrap ((c%128:Nat):Int)=((c%128:Nat):Int):=by rw[rB];omega
 have eA:(((c%128:Nat):Int)*2^(7*k))=((c%128*128^k:Nat):Int):=by
  rw[DZ];push_cast;rfl
 have ak:128^k≤128^9:=Nat.pow_le_pow_right (by decide) aj
 rw[ay,aV,ct,eA,rB]
 have nY:((c%128*128^k:Nat):Int)%18446744073709551616=((c%128*128^k:Nat):Int):=by omega
 rw[nY,SZ _ _ (by(have:(128:Nat)^9=9223372036854775808:=(by decide));omega) hd]
 rw[Nat.or_comm,nat_join (7*k) _ _ (by rw[DZ];exact Nat.mul_mod_left _ _) (by rw[←DZ];exact aK),Nat.add_comm]
theorem D0(e:UInt8):e.toNat<256:=e.toNat_lt
theorem Lj{s:ByteArray}{k:Nat}{e:UInt8}{acc:Nat}(he:s.data.toList[k]? =some e)(aj:k≤9)(aK:acc<128^k):p4 s k (acc:Int)=
 if(0<k∧e.toNat=0)∨(k=9∧1<e.toNat)then .ret (0,0,4)else if e.toNat<128 then .ret (((acc+e.toNat%128*128^k:Nat):Int),((k+1:Nat):Int),0)else .bx ((acc+e.toNat%128*128^k:Nat):Int):=by
 have hu:=D0 e
 unfold p4
 dsimp only
 rw[he]
 dsimp only
 rw[cond_eq_ite]
 by_cases aa:(0<k∧e.toNat=0)∨(k=9∧1<e.toNat)
 ·rw[if_pos aa,if_pos]
  simp only[Bool.or_eq_true,Bool.and_eq_true,decide_eq_true_eq,beq_iff_eq];omega
 ·have hd:e.toNat%128*128^k<18446744073709551616:=by
   rcases Nat.lt_or_ge k 9 with ij|ij
   ·have ak:128^k≤128^8:=Nat.pow_le_pow_right (by decide) (by omega)
    have:e.toNat%128*128^k≤127*128^8:=Nat.mul_le_mul (by omega) ak
    exact Nat.lt_of_le_of_lt this (by decide)
   ·have xt:k=9:=by omega
    subst xt
    have:e.toNat%128*128^9≤1*128^9:=Nat.mul_le_mul (by omega) (Nat.le_refl _)
    exact Nat.lt_of_le_of_lt this (by decide)
  rw[if_neg aa,if_neg (by
   simp only[Bool.or_eq_true,Bool.and_eq_true,decide_eq_true_eq,beq_iff_eq]
   omega),Li aj hu aK hd,cond_eq_ite]
  by_cases ae:e.toNat<128
  ·rw[if_pos ae,if_pos (by rw[decide_eq_true_eq];omega)]
  ·rw[if_neg ae,if_neg (by rw[decide_eq_true_eq];omega)]
theorem Lk{s:ByteArray}: ∀(m k acc:Nat) (U N:Int),k+m=s.size→acc<128^k→k≤9→bV (p4 s) k m (acc:Int)= .inl (U,N,0)→
 ∃(u:Nat) (t:List UInt8),U=((acc+u*128^k:Nat):Int)∧s.data.toList.drop k=xr (kM (9-k) u)++t∧N=((k+(kM (9-k) u).length:Nat):Int)∧(0<k→0<u)∧acc+u*128^k<18446744073709551616
 |0,k,acc,U,N,_,_,_,h=>by simp[bV]at h
 |m+1,k,acc,U,N,ah,aK,aj,h=>by
  have bA:k<s.data.toList.length:=by
   have:s.data.toList.length=s.size:=rfl
   omega
  obtain⟨e,he⟩: ∃e,s.data.toList[k]? =some e:=⟨_,List.getElem?_eq_getElem bA⟩
  have Ll:s.data.toList.drop k=e::s.data.toList.drop (k+1):=by
   rw[List.drop_eq_getElem_cons bA]
   congr 1
   rw[List.getElem?_eq_getElem bA]at he
   exact Option.some.inj he
  have zcD:=D0 e
  have Lm:128^(k+1)=128*128^k:=by rw[Nat.pow_succ,Nat.mul_comm]
  have zcE:128^k≤128^9:=Nat.pow_le_pow_right (by decide) aj
  have S9:(128:Nat)^9=9223372036854775808:=by decide
  unfold bV at h;rw[Lj he aj aK]at h
  split at h
  ·rename_i r af
   split at af
   ·cases af;cases h
   ·rename_i aJ
    split at af
    ·rename_i hc
     cases af;simp only[Sum.inl.injEq,Prod.mk.injEq]at h;obtain⟨rfl,rfl,_⟩:=h
     have av:kM (9-k) e.toNat=[e.toNat]:=by
      rcases Nat.lt_or_ge k 9 with ij|ij
      ·obtain⟨f,hf⟩: ∃f,9-k=f+1:=⟨8-k,by omega⟩
       rw[hf];unfold kM;rw[if_pos hc]
      ·rw[show 9-k=0 by omega];rfl
     have s0:acc+e.toNat*128^k<18446744073709551616:=by
      rcases Nat.lt_or_ge k 9 with ij|ij
      ·have ak:128^k≤128^8:=Nat.pow_le_pow_right (by decide) (by omega)
       have ae:e.toNat*128^k≤127*128^8:=Nat.mul_le_mul (by omega) ak
       have xu:127*(128:Nat)^8=9151314442816847872:=by decide
       omega
      ·have xt:k=9:=by omega
       subst xt
       have:e.toNat*128^9≤1*128^9:=Nat.mul_le_mul (by omega) (Nat.le_refl _)
       omega
     refine⟨e.toNat,s.data.toList.drop (k+1),by rw[Nat.mod_eq_of_lt hc],?_,by rw[av];rfl,fun aS=>by omega,s0⟩
     rw[av,Ll];simp[xr]
    ·cases af
  ·rename_i a af
   split at af
   ·cases af
   ·split at af<;>cases af
  ·rename_i a af
   split at af
   ·cases af
   ·rename_i aJ
    split at af
    ·cases af
    ·rename_i hc
     cases af
     have Ln:k≤8:=by
      rcases Nat.lt_or_ge k 9 with ij|ij
      ·omega
      ·exact absurd (Or.inr ⟨by omega,by omega⟩) aJ
     have xv:acc+e.toNat%128*128^k<128^(k+1):=by
      have:e.toNat%128*128^k≤127*128^k:=Nat.mul_le_mul (by omega) (Nat.le_refl _)
      omega
     obtain⟨u,t,aa,ae,aq,aT,bD⟩:=Lk m (k+1) (acc+e.toNat%128*128^k) U N (by omega) xv (by omega) h
     have zcF:=aT (by omega)
     have xw:acc+e.toNat%128*128^k+u*128^(k+1)=acc+(e.toNat%128+u*128)*128^k:=by
      rw[Lm,Nat.add_mul,Nat.add_assoc,Nat.mul_assoc]
     have av:kM (9-k) (e.toNat%128+u*128)=e.toNat::kM (9-(k+1)) u:=by
      rw[show 9-k=(9-(k+1))+1 by omega]
      conv=>lhs;unfold kM
      rw[if_neg (by omega)]
      congr 1
      ·omega
      ·congr 1
       omega
     refine⟨e.toNat%128+u*128,t,by rw[aa,xw],?_,?_,fun _=>by omega,by rw[←xw];exact bD⟩
     ·rw[av,Ll,ae]
      simp[xr]
     ·rw[av,aq,List.length_cons]
      congr 1
      omega
theorem Lo{s:ByteArray}{U N:Int}(h:jy s=(U,N,0)): ∃(u:Nat) (t:ByteArray),U=(u:Int)∧s=kg u++t∧N=(((kg u).size:Nat):Int)∧u<18446744073709551616:=by
 unfold jy at h
 split at h
 ·rename_i r af
  subst h;unfold xn at af;obtain⟨u,t,aa,ae,aq,_,bD⟩:=Lk s.size 0 0 U N (by omega) (by decide) (by decide) af
  refine⟨u,⟨t.toArray⟩,by rw[aa];simp,o3 ?_,by rw[aq,Lh];simp,by omega⟩
  rw[ByteArray.data_append,Array.toList_append,S7];simpa using ae
 ·simp at h
theorem Ta(k:IntKind)(a b:Int):jf k a b=jf k b a:=by
 unfold jf
 rw[BitVec.xor_comm]
theorem Tb(a:Nat)(h:a<9223372036854775808):jf .i64 (a:Int) 0=(a:Int):=by
 unfold jf
 have e:BitVec.ofInt IntKind.i64.bits (0:Int)=0#_:=rfl
 rw[e,BitVec.xor_zero]
 have:(BitVec.ofInt 64 (a:Int)).toNat=a:=ofInt_u64 a (by omega)
 show IntKind.i64.wrap (((BitVec.ofInt 64 (a:Int)).toNat:Nat):Int)=_
 rw[this,dw _ (by omega) (by omega)]
theorem Tc(a:Nat)(h:a<9223372036854775808):jf .i64 (a:Int) (-1)= -1-(a:Int):=by
 rw[Ta]
 exact i64_not a h
theorem Td{u:Nat}(h:u<18446744073709551616):jf .i64 (IntKind.i64.wrap ((u:Int).fdiv 2)) (IntKind.i64.wrap (0-IntKind.i64.wrap (ln .u64 (u:Int) 1)))=xq u:=by
 have ay:IntKind.i64.wrap ((u:Int).fdiv 2)=((u/ 2:Nat):Int):=by
  rw[Int.fdiv_eq_ediv_of_nonneg _ (by decide),dw _ (by omega) (by omega)]
  omega
 have aV:ln .u64 (u:Int) 1=((u%2:Nat):Int):=by
  rw[show(1:Int)=((1:Nat):Int)from rfl,S1 _ _ h (by decide),nat_mask1]
 rw[ay,aV]
 unfold xq
 split
 ·rename_i aS
  rw[aS];exact Tb _ (by omega)
 ·rename_i aS
  rw[show u%2=1 by omega]
  exact Tc _ (by omega)
theorem Te{r:Rd}(h:jz r≠0):cU r=(0,r):=by
 unfold cU
 rw[show(jz r != 0)=true by simpa using h]
 rfl
end Go.aL
namespace Go.aL
open Go Go.aL Go.ei
theorem xx{v:bH}(h:kf v=0):v.s.size≤60:=by
 unfold kf at h
 simp only[cond_eq_ite]at h
 repeat' split at h
 all_goals first
  |(cases h;done)
  |(rename_i aJ _;simp at aJ;omega)
  |(rename_i aJ;simp at aJ;omega)
theorem Tf{a b:ByteArray}:bn a b=true↔a=b:=by rw[D1];simp
theorem D2{v:bH}(h:kf v=0):(v.kind=0∧v.n=0∧v.s=⟨#[]⟩)∨((v.kind=1∨v.kind=2∨v.kind=3)∧v.s=⟨#[]⟩∧ -1099511627776≤v.n∧v.n≤1099511627776)∨(v.kind=4∧v.n=0∧v.s.size≤60):=by
 have bJ:=xx h
 unfold kf at h
 cases cV:(((v.kind==0)||(v.kind==4))||((v.kind==1)||((v.kind==2)||(v.kind==3))))with
 |false=>rw[cV]at h;cases h
 |true=>
  rw[cV]at h
  cases fV:(bif((v.kind==0)||(v.kind==4))then(v.n==0)else(bif(v.kind==1)then((v.n==0)||(v.n==1))else(bif(v.kind==2)then xo v.n else(decide (v.n≥0)&&decide (v.n≤63)))))with
  |false=>rw[fV]at h;cases h
  |true=>
   rw[fV]at h;simp only[cond_true,Bool.not_true,cond_false]at h;simp only[cond_eq_ite]at h
   split at h
   ·cases h
   ·split at h
    ·cases h
    ·rename_i aq
     have ah:v.kind≠4→v.s=⟨#[]⟩:=fun aj=>by
      simp only[Bool.and_eq_true,bne_iff_ne,ne_eq,not_and,Decidable.not_not,Bool.not_eq_true']at aq
      cases aJ:bn v.s ⟨#[]⟩with
      |true=>exact Tf.1 aJ
      |false=>exact absurd (aq aJ) aj
     simp only[Bool.or_eq_true,beq_iff_eq]at cV
     rcases cV with (aS|aT)|aa|ae|aq
     ·exact .inl ⟨aS,by simpa[aS]using fV,ah (by omega)⟩
     ·exact .inr (.inr ⟨aT,by simpa[aT]using fV,bJ⟩)
     ·refine .inr (.inl ⟨.inl aa,ah (by omega),?_⟩)
      simp[aa]at fV;omega
     ·refine .inr (.inl ⟨.inr (.inl ae),ah (by omega),?_⟩)
      simp[ae,xo]at fV;omega
     ·refine .inr (.inl ⟨.inr (.inr aq),ah (by omega),?_⟩)
      simp[aq]at fV;omega
def o4(r:Rd):bH × Rd:=
 if(cU r).1=1∨(cU r).1=2∨(cU r).1=3 then(⟨(cU r).1,(cU (cU r).2).1,⟨#[]⟩⟩,(cU (cU r).2).2)
 else if(cU r).1=4 then(⟨(cU r).1,0,(iE (cU r).2 60).1⟩,(iE (cU r).2 60).2)else(⟨(cU r).1,0,⟨#[]⟩⟩,(cU r).2)
theorem D3(r:Rd):sV r=(o4 r).1∧sW r=(o4 r).2:=by
 unfold sV sW o4
 simp only[cond_eq_ite,Bool.or_eq_true,beq_iff_eq]
 split
 ·exact⟨rfl,rfl⟩
 ·split<;>exact⟨rfl,rfl⟩
end Go.aL
namespace Go.aL
open Go Go.aL Go.ei
theorem Ar{r:dC}(h:jg r):jg (c9 r).2:=by
 unfold c9
 cases (fU r != 0)with
 |true=>exact h
 |false=>
  simp only[cond_false]
  split
  ·rename_i q aJ
   have key: ∀(m k:Nat) (a:Int) (q:Int × dC),k+m≤10→bV (nr r) k m a= .inl q→jg q.2:=by
    intro m
    induction m with
    |zero=>intro k a r _ h;simp[bV]at h
    |succ m aQ=>
     intro k a q aj ao;unfold bV at ao
     split at ao
     ·rename_i gx ad
      simp only[Sum.inl.injEq]at ao;subst ao;obtain⟨aa,ae,aq⟩:=h;unfold nr at ad;simp only[cond_eq_ite,decide_eq_true_eq]at ad
      have cn:IntKind.i64.wrap (r.at_+(k:Int))=r.at_+(k:Int):=dw _ (by omega) (by omega)
      rw[cn]at ad
      split at ad
      ·cases ad;exact⟨aa,ae,aq⟩
      ·rename_i bA
       have cH:IntKind.i64.wrap (r.at_+(k:Int)+1)=r.at_+(k:Int)+1:=dw _ (by omega) (by omega)
       rw[cH]at ad
       split at ad
       ·split at ad
        ·cases ad;exact⟨aa,ae,aq⟩
        ·split at ad
         ·cases ad;exact⟨by first|omega|(dsimp only;omega),by first|omega|(dsimp only;omega),aq⟩
         ·cases ad
       ·cases ad
     ·cases ao
     ·exact aQ _ _ _ (by omega) ao
   exact key _ _ _ _ (by omega) aJ
  ·exact h
theorem As(r:dC)(n:Int):0≤(dc r n).1:=by
 unfold dc
 cases cV:(fU ((c9 r).2) != 0)with
 |true=>exact Int.le_refl _
 |false=>
  simp only[cond_false]
  cases fV:decide ((c9 r).1<0)with
  |true=>exact Int.le_refl _
  |false=>
   have fV:=of_decide_eq_false fV
   simp only[cond_false,cond_eq_ite]
   repeat' split
   all_goals first|exact Int.le_refl _|omega|(dsimp only;omega)
theorem D4{r:dC}{n:Int}(h:jg r):jg (dc r n).2:=by
 have h:=Ar h
 unfold dc
 simp only[cond_eq_ite]
 repeat' split
 all_goals exact h
theorem D5{r:dC}{n:Int}(h:jg r):jg (lp r n).2:=by
 have h:=D4 (n:=n) h
 have hn:=As r n
 unfold lp
 generalize hc:dc r n=c at*
 obtain⟨aa,ae,aq⟩:=h
 have cn:IntKind.i64.wrap ((c.2.s.size:Int)-c.2.at_)=(c.2.s.size:Int)-c.2.at_:=dw _ (by omega) (by omega)
 rw[cn]
 simp only[cond_eq_ite,decide_eq_true_eq]
 repeat' split
 ·exact⟨aa,ae,aq⟩
 ·exact⟨aa,ae,aq⟩
 ·have cH:IntKind.i64.wrap (c.2.at_+c.1)=c.2.at_+c.1:=dw _ (by omega) (by omega)
  rw[cH];exact⟨by first|omega|(dsimp only;omega),by first|omega|(dsimp only;omega),aq⟩
theorem p8(s:ByteArray)(n:Nat):(s.extract n s.size).data.toList=s.data.toList.drop n:=by
 rw[ByteArray.data_extract,Array.toList_extract]
 have ah:s.size=s.data.toList.length:=rfl
 rw[ah]
 simp[List.extract]
 rw[List.take_of_length_le (l:=List.drop n s.data.toList) (by rw[List.length_drop];exact Nat.le_refl _)]
theorem Lp(s:ByteArray)(n j:Nat):(s.extract n s.size).extract j (s.extract n s.size).size=s.extract (n+j) s.size:=o3 (by
 rw[p8,p8,p8,List.drop_drop])
def ik(r:Rd)(q:dC):Prop:=jg q∧r=⟨q.s.extract q.at_.toNat q.s.size,q.bad,q.made⟩
theorem rC{r:Rd}{q:dC}(h:ik r q):jz r=fU q:=by
 rw[h.2]
 rfl
theorem Tg{q:dC}(an:jg q){k acc:Nat}(aj:k≤9)(aK:acc<128^k){e:UInt8}(he:(q.s.extract q.at_.toNat q.s.size).data.toList[k]? =some e):nr q k (acc:Int)=
 if(0<k∧e.toNat=0)∨(k=9∧1<e.toNat)then .ret (0,⟨q.s,q.at_,4,q.made⟩)else if e.toNat<128 then .ret (xq (acc+e.toNat%128*128^k),⟨q.s,q.at_+((k+1:Nat):Int),q.bad,q.made⟩)else .bx ((acc+e.toNat%128*128^k:Nat):Int):=by
 obtain⟨aa,ae,aq⟩:=an
 have hu:=D0 e
 rw[p8,List.getElem?_drop]at he
 have bA:q.at_.toNat+k<q.s.size:=(List.getElem?_eq_some_iff.1 he).1
 have cn:IntKind.i64.wrap (q.at_+(k:Int))=q.at_+(k:Int):=dw _ (by omega) (by omega)
 have cH:IntKind.i64.wrap (q.at_+(k:Int)+1)=q.at_+((k+1:Nat):Int):=by rw[dw _ (by omega) (by omega)];omega
 have kh:(q.at_+(k:Int)).toNat=q.at_.toNat+k:=by omega
 unfold nr
 dsimp only
 rw[cn,decide_eq_false (show ¬q.at_+(k:Int)≥(q.s.size:Int)by omega),cond_false,kh,he]
 dsimp only
 rw[cH]
 have u3:(e.toNat:Int).tmod 128=ln .u8 (e.toNat:Int) 127:=by
  rw[show(127:Int)=((127:Nat):Int)from rfl,Lb _ _ hu (by decide),nat_mask7,Int.tmod_eq_emod_of_nonneg (by omega)]
  omega
 rw[u3,cond_eq_ite]
 by_cases aa:(0<k∧e.toNat=0)∨(k=9∧1<e.toNat)
 ·rw[if_pos aa,if_pos]
  simp only[Bool.or_eq_true,Bool.and_eq_true,decide_eq_true_eq,beq_iff_eq];omega
 ·have hd:e.toNat%128*128^k<9223372036854775808*2∧acc+e.toNat%128*128^k<18446744073709551616:=by
   rcases Nat.lt_or_ge k 9 with ij|ij
   ·have ak:128^k≤128^8:=Nat.pow_le_pow_right (by decide) (by omega)
    have:e.toNat%128*128^k≤127*128^8:=Nat.mul_le_mul (by omega) ak
    have xu:(128:Nat)^8=72057594037927936:=by decide
    omega
   ·have xt:k=9:=by omega
    subst xt
    have:e.toNat%128*128^9≤1*128^9:=Nat.mul_le_mul (by omega) (Nat.le_refl _)
    have S9:(128:Nat)^9=9223372036854775808:=by decide
    omega
  rw[if_neg aa,if_neg (by
   simp only[Bool.or_eq_true,Bool.and_eq_true,decide_eq_true_eq,beq_iff_eq]
   omega),Li aj hu aK (by omega),cond_eq_ite]
  by_cases ae:e.toNat<128
  ·rw[if_pos ae,if_pos (by rw[decide_eq_true_eq];omega)]
   generalize acc+e.toNat%128*128^k=Z at*
   have v1:IntKind.i64.wrap ((Z:Int).fdiv 2)=((Z/ 2:Nat):Int):=by
    rw[Int.fdiv_eq_ediv_of_nonneg _ (by decide),dw _ (by omega) (by omega)]
    omega
   have v2:(Z:Int).tmod 2=((Z%2:Nat):Int):=by rw[Int.tmod_eq_emod_of_nonneg (by omega)];omega
   rw[v1,v2];unfold xq
   by_cases aS:Z%2=0
   ·rw[if_pos aS,aS]
    rfl
   ·rw[if_neg aS,show Z%2=1 by omega,dw _ (by omega) (by omega)]
    rfl
  ·rw[if_neg ae,if_neg (by rw[decide_eq_true_eq];omega)]
theorem Th{q:dC}(an:jg q){k:Nat}{acc:Int}(aj:k≤9)(he:q.s.size≤q.at_.toNat+k):nr q k acc= .ret (0,⟨q.s,q.at_,5,q.made⟩):=by
 obtain⟨aa,ae,aq⟩:=an
 have cn:IntKind.i64.wrap (q.at_+(k:Int))=q.at_+(k:Int):=dw _ (by omega) (by omega)
 unfold nr
 dsimp only
 rw[cn,decide_eq_true (show q.at_+(k:Int)≥(q.s.size:Int)by omega)]
 rfl
theorem Lq{q:dC}(an:jg q): ∀(m k acc:Nat),k+m=10→k≤9→acc<128^k→k≤(q.s.extract q.at_.toNat q.s.size).size→
 bV (nr q) k m (acc:Int)=match bV (p4 (q.s.extract q.at_.toNat q.s.size)) k ((q.s.extract q.at_.toNat q.s.size).size-k) (acc:Int)with
  | .inl (U,N,E)=>if E=0 then .inl (xq U.toNat,⟨q.s,q.at_+N,q.bad,q.made⟩)else .inl (0,⟨q.s,q.at_,E,q.made⟩)
  | .inr _=>.inl (0,⟨q.s,q.at_,5,q.made⟩)
 |0,k,acc,hm,aj,_,_=>by omega
 |m+1,k,acc,hm,aj,aK,bJ=>by
  have zcG:(q.s.extract q.at_.toNat q.s.size).size=q.s.size-q.at_.toNat:=by rw[ByteArray.size_extract];omega
  rcases Nat.lt_or_ge k (q.s.extract q.at_.toNat q.s.size).size with bA|hW
  ·obtain⟨e,he⟩: ∃e,(q.s.extract q.at_.toNat q.s.size).data.toList[k]? =some e:=⟨_,List.getElem?_eq_getElem (by exact bA)⟩
   have ak:0<128^k:=Nat.pow_pos (by decide)
   obtain⟨j,ai⟩: ∃j,(q.s.extract q.at_.toNat q.s.size).size-k=j+1:=⟨(q.s.extract q.at_.toNat q.s.size).size-k-1,by omega⟩
   rw[ai];unfold bV;rw[Tg an aj aK he,Lj he aj aK]
   by_cases aa:(0<k∧e.toNat=0)∨(k=9∧1<e.toNat)
   ·rw[if_pos aa,if_pos aa]
    rfl
   ·rw[if_neg aa,if_neg aa]
    by_cases ae:e.toNat<128
    ·rw[if_pos ae,if_pos ae]
     dsimp only;rw[if_pos rfl,Int.toNat_natCast]
    ·rw[if_neg ae,if_neg ae]
     dsimp only
     have Lm:128^(k+1)=128*128^k:=by rw[Nat.pow_succ,Nat.mul_comm]
     have xv:acc+e.toNat%128*128^k<128^(k+1):=by
      have:e.toNat%128*128^k≤127*128^k:=Nat.mul_le_mul (by omega) (Nat.le_refl _)
      omega
     have Ln:k+1≤9:=by
      rcases Nat.lt_or_ge k 9 with ij|ij
      ·omega
      ·exact absurd (Or.inr ⟨by omega,by omega⟩) aa
     rw[Lq an m (k+1) _ (by omega) Ln xv (by omega),show(q.s.extract q.at_.toNat q.s.size).size-(k+1)=j by omega]
  ·rw[show(q.s.extract q.at_.toNat q.s.size).size-k=0 by omega]
   unfold bV;rw[Th an aj (by omega)]
def At{α:Type}(R:Rd→α × Rd)(S:dC→α × dC):Prop:=∀r q,ik r q→(R r).1=(S q).1∧ik (R r).2 (S q).2
theorem Ti{q:dC}(h:fU q≠0):c9 q=(0,q):=by
 unfold c9
 rw[show(fU q != 0)=true by simpa using h]
 rfl
theorem u4:At cU c9:=by
 intro r q h
 have af:=h
 by_cases aS:fU q=0
 ·have hX:=Ar h.1
  have ak:=h.1
  obtain⟨an,rfl⟩:=h;unfold c9 DX at hX⊢;unfold cU;rw[rC af,aS];rw[aS]at hX;simp only[bne_self_eq_false,cond_false]at hX⊢
  have ao:=Lq an 10 0 0 (by omega) (by omega) (by decide) (by omega)
  rw[Nat.sub_zero]at ao;rw[show((0:Nat):Int)=0 from rfl]at ao
  rw[ao]at hX⊢;generalize ah:q.s.extract q.at_.toNat q.s.size=rest at*;unfold jy xn
  cases av:bV (p4 rest) 0 rest.size 0 with
  |inr a=>
   rw[av]at hX;dsimp only at hX⊢;exact⟨rfl,hX,by rw[←ah];rfl⟩
  |inl p=>
   obtain⟨U,N,E⟩:=p;rw[av]at hX;dsimp only at hX⊢
   by_cases fW:E=0
   ·subst fW
    have Tj:jy rest=(U,N,0):=by
     unfold jy xn;rw[av]
    obtain⟨u,t,rD,aG,ha,hu⟩:=Lo Tj;subst rD ha;rw[if_pos rfl]at hX⊢;dsimp only at hX⊢
    have mr:rest.extract ((((kg u).size:Nat):Int)).toNat rest.size=q.s.extract (q.at_+(((kg u).size:Nat):Int)).toNat q.s.size:=by
     rw[←ah,Lp,Int.toNat_natCast]
     have:=ak.1
     congr 1
     omega
    refine⟨?_,hX,?_⟩
    ·show jf .i64 _ _=_
     rw[Td hu,Int.toNat_natCast]
    ·show(⟨rest.extract ((((kg u).size:Nat):Int)).toNat rest.size,q.bad,q.made⟩:Rd)=_
     rw[mr]
   ·rw[if_neg fW]at hX⊢
    rw[show(E != 0)=true by simpa using fW]
    exact⟨rfl,hX,by rw[←ah];rfl⟩
 ·rw[Ti aS,Te (by rw[rC h];exact aS)]
  exact⟨rfl,h⟩
theorem Lr{r:Rd}{q:dC}(h:ik r q):(r.rest.size:Int)=(q.s.size:Int)-q.at_:=by
 obtain⟨⟨aa,ae,aq⟩,rfl⟩:=h
 show(((q.s.extract q.at_.toNat q.s.size).size:Nat):Int)=_
 rw[ByteArray.size_extract]
 omega
theorem Tk(n:Int):At (fun r=>gi r n) (fun q=>dc q n):=by
 intro r q h
 obtain⟨aa,ae⟩:=u4 r q h
 show(gi r n).1=(dc q n).1∧ik (gi r n).2 (dc q n).2
 unfold gi dc
 rw[rC ae,aa]
 have hm:(if 0>n then(0:Int)else n)=bif decide (n<0)then 0 else n:=by
  rw[cond_eq_ite]
  by_cases hn:n<0
  ·rw[if_pos hn,if_pos (decide_eq_true hn)]
  ·rw[if_neg hn,if_neg (by simpa using hn)]
 rw[hm]
 have aj: ∀e:Int,ik ⟨(cU r).2.rest,e,(cU r).2.made⟩ ⟨(c9 q).2.s,(c9 q).2.at_,e,(c9 q).2.made⟩:=fun e=>by
  obtain⟨an,af⟩:=ae;refine⟨an,?_⟩
  rw[af]
 cases (fU (c9 q).2 != 0)with
 |true=>exact⟨rfl,ae⟩
 |false=>
  simp only[cond_false]
  cases decide ((c9 q).1<0)with
  |true=>exact⟨rfl,aj 4⟩
  |false=>
   simp only[cond_false]
   cases decide ((c9 q).1>bif decide (n<0)then 0 else n)with
   |true=>exact⟨rfl,aj 3⟩
   |false=>exact⟨rfl,ae⟩
theorem Tl(s:ByteArray)(n j:Nat)(h:n+j≤s.size):(s.extract n s.size).extract 0 j=s.extract n (n+j):=o3 (by
 rw[ByteArray.data_extract,Array.toList_extract,p8,ByteArray.data_extract,Array.toList_extract]
 have ah:s.size=s.data.toList.length:=rfl
 simp only[List.extract,List.drop_zero,Nat.sub_zero]
 rw[show n+j-n=j by omega])
theorem xy(n:Int):At (fun r=>iE r n) (fun q=>lp q n):=by
 intro r q h
 obtain⟨aa,ae⟩:=Tk n r q h
 have zcH:=As q n
 show(iE r n).1=(lp q n).1∧ik (iE r n).2 (lp q n).2
 have hX:=D5 (n:=n) h.1
 unfold lp at hX⊢
 unfold iE
 dsimp only at aa ae
 rw[rC ae,aa]
 have bJ:=Lr ae
 obtain⟨an,af⟩:=ae
 obtain⟨xz,D6,Ls⟩:=an
 generalize dc q n=c at*
 rw[af]at bJ⊢
 generalize hd:gi r n=d at*
 have cn:IntKind.i64.wrap ((c.2.s.size:Int)-c.2.at_)=(c.2.s.size:Int)-c.2.at_:=dw _ (by omega) (by omega)
 rw[cn]at hX⊢
 dsimp only at bJ⊢
 rw[bJ]
 cases fW:(fU c.2 != 0)with
 |true=>
  exact⟨rfl,⟨xz,D6,Ls⟩,rfl⟩
 |false=>
  rw[fW]at hX;simp only[cond_false]at hX⊢
  by_cases ag:c.1>(c.2.s.size:Int)-c.2.at_
  ·rw[decide_eq_true ag]
   exact⟨rfl,⟨xz,D6,Ls⟩,rfl⟩
  ·rw[decide_eq_false ag]at hX⊢
   simp only[cond_false]at hX⊢;refine⟨?_,hX,?_⟩
   ·rw[Tl _ _ _ (by omega)]
    congr 1
    omega
   ·have cH:IntKind.i64.wrap (c.2.at_+c.1)=c.2.at_+c.1:=dw _ (by omega) (by omega)
    rw[cH,Lp]
    have:c.2.at_.toNat+c.1.toNat=(c.2.at_+c.1).toNat:=by omega
    rw[this]
theorem Tm{r:Rd}{q:dC}(e:Int)(h:ik r q):ik (ry r e) (xp q e):=by
 unfold ry xp
 rw[rC h]
 cases (fU q==0)with
 |true=>exact⟨h.1,by rw[h.2];rfl⟩
 |false=>exact h
theorem Tn:At o1 u1:=by
 intro r q h
 obtain⟨aa,ae⟩:=u4 r q h
 obtain⟨bB,a2⟩:=xy 60 _ _ ae
 obtain⟨eY,gH⟩:=u4 _ _ ae
 dsimp only at bB a2
 have av:(o4 r).1=sY q∧ik (o4 r).2 (o2 q):=by
  have To:(mq q).kind=(c9 q).1:=by
   unfold mq
   cases ((c9 q).1==4)<;>rfl
  unfold o4 sY o2;rw[To,aa]
  by_cases aT:(c9 q).1=4
  ·rw[if_neg (by omega),if_pos aT,show(decide ((c9 q).1≥1)&&decide ((c9 q).1≤3))=false by rw[aT];rfl]
   simp only[cond_false];unfold mq sX;rw[show((c9 q).1==4)=true by simpa using aT]
   simp only[cond_true];exact⟨by rw[bB],a2⟩
  ·have ay:mq q=⟨(c9 q).1,0,⟨#[]⟩⟩:=by
    unfold mq;rw[show((c9 q).1==4)=false by simpa using aT]
    rfl
   have aV:sX q=(c9 q).2:=by
    unfold sX;rw[show((c9 q).1==4)=false by simpa using aT]
    rfl
   rw[ay,aV]
   by_cases aq:(c9 q).1=1∨(c9 q).1=2∨(c9 q).1=3
   ·rw[if_pos aq,show(decide ((c9 q).1≥1)&&decide ((c9 q).1≤3))=true by simp;omega]
    simp only[cond_true];exact⟨by rw[eY],gH⟩
   ·rw[if_neg aq,if_neg aT,show(decide ((c9 q).1≥1)&&decide ((c9 q).1≤3))=false by simp;omega]
    exact⟨rfl,ae⟩
 obtain⟨v1,v2⟩:=av
 have bD:ik (rA r) (sZ q):=by
  unfold rA sZ;rw[(D3 r).1,(D3 r).2,v1,La]
  by_cases fW:fU (o2 q)=0
  ·rw[show(fU (o2 q)==0)=true by simpa using fW]
   simp only[Bool.true_and]
   cases (rz (sY q) != 0)with
   |true=>exact Tm 4 v2
   |false=>exact v2
  ·rw[show(fU (o2 q)==0)=false by simpa using fW]
   simp only[Bool.false_and,cond_false]
   cases (rz (sY q) != 0)with
   |true=>
    simp only[cond_true];unfold ry;rw[rC v2,show(fU (o2 q)==0)=false by simpa using fW]
    exact v2
   |false=>exact v2
 unfold o1 u1
 rw[rC bD,(D3 r).1,v1]
 cases (fU (sZ q) != 0)with
 |true=>exact⟨rfl,bD⟩
 |false=>exact⟨rfl,bD⟩
theorem Tp{r:Rd}{q:dC}(h:ik r q):o0 r=Ao q:=by
 have ah:=Lr h
 unfold o0 DW Ao
 rw[rC h]
 cases fW:(fU q != 0)with
 |true=>rfl
 |false=>
  have aS:fU q=0:=Ap fW
  simp only[cond_false];rw[ah,aS]
  by_cases ao:q.at_<(q.s.size:Int)
  ·rw[decide_eq_true ao,decide_eq_true (by omega)]
  ·rw[decide_eq_false ao,decide_eq_false (by omega)]
end Go.aL
namespace Go.aL
open Go Go.ei
theorem Tq(u:Nat):aZ .shr .u64 (u:Int) 7=((u/ 128:Nat):Int):=by
 show(u:Int).fdiv (2^(min (7:Int).toNat 64))=_
 rw[show(2:Int)^(min (7:Int).toNat 64)=128 from rfl,Int.fdiv_eq_ediv_of_nonneg _ (by decide)]
 omega
theorem Tr{u:Nat}(h:u<18446744073709551616):aZ .quo .u64 (u:Int) 128=((u/ 128:Nat):Int):=by
 show IntKind.u64.wrap ((u:Int).tdiv 128)=_
 rw[Int.tdiv_eq_ediv_of_nonneg (by omega),rB]
 omega
def s3(R:Type)(c:Int × List Int):Step R (Int × List Int):=
 bif decide (c.1≥128)then .bx (aZ .shr .u64 c.1 7,List.append c.2 [aZ .or .u8 (IntKind.wrap .u8 c.1) 128])else .b7 (c.1,c.2)
def s4(R:Type)(c:Int × List Int):Step R (Int × List Int):=
 bif decide (c.1≥128)then .bx (aZ .quo .u64 c.1 128,List.append c.2 [IntKind.wrap .u8 (IntKind.wrap .u8 (aZ .rem .u64 c.1 128)+128)])else .b7 (c.1,c.2)
theorem Ts(R:Type){u:Nat}(acc:List Int)(h:u<128):s3 R ((u:Int),acc)= .b7 ((u:Int),acc):=by
 unfold s3
 rw[show decide ((u:Int)≥128)=false from decide_eq_false (by omega)]
 rfl
theorem Lt(R:Type){u:Nat}(acc:List Int)(h: ¬u<128):s3 R ((u:Int),acc)= .bx (((u/ 128:Nat):Int),acc++[((u%128+128:Nat):Int)]):=by
 unfold s3
 rw[show decide ((u:Int)≥128)=true from decide_eq_true (by omega),cond_true,Tq]
 show Step.bx (_,acc++[kL .u8 (IntKind.u8.wrap (u:Int)) 128])=_
 rw[S5]
theorem Tt(R:Type){u:Nat}(acc:List Int)(h:u<128):s4 R ((u:Int),acc)= .b7 ((u:Int),acc):=by
 unfold s4
 rw[show decide ((u:Int)≥128)=false from decide_eq_false (by omega)]
 rfl
theorem Lu(R:Type){u:Nat}(acc:List Int)(h: ¬u<128)(ae:u<18446744073709551616):s4 R ((u:Int),acc)= .bx (((u/ 128:Nat):Int),acc++[((u%128+128:Nat):Int)]):=by
 unfold s4
 rw[show decide ((u:Int)≥128)=true from decide_eq_true (by omega),cond_true,Tr ae]
 show Step.bx (_,acc++[IntKind.u8.wrap (IntKind.u8.wrap ((u:Int).tmod 128)+128)])=_
 rw[S6]
theorem Lv{R:Type}{b:Int × List Int→Step R (Int × List Int)}(ao: ∀(u:Nat) acc,u<128→b ((u:Int),acc)= .b7 ((u:Int),acc))
 (ag: ∀(u:Nat) acc,¬u<128→u<18446744073709551616→b ((u:Int),acc)= .bx (((u/ 128:Nat):Int),acc++[((u%128+128:Nat):Int)])):
 ∀(f u F:Nat) (acc:List Int),u<128*128^f→u<18446744073709551616→f<F→∃(x:Nat) (l:List Int),b9 b F ((u:Int),acc)= .inr ((x:Int),acc++l)∧(kM f u).map (fun b:Nat=>(b:Int))=l++[(x:Int)]∧x<128
 |f,u,0,acc,h,_,hF=>absurd hF (Nat.not_lt_zero _)
 |f,u,F+1,acc,h,s0,hF=>by
  by_cases hu:u<128
  ·refine⟨u,[],by rw[Le (ao u acc hu),List.append_nil],?_,hu⟩
   cases f with
   |zero=>rfl
   |succ f=>unfold kM;rw[if_pos hu];rfl
  ·cases f with
   |zero=>exact absurd h (by simpa using hu)
   |succ f=>
    have ae:u/ 128<128*128^f:=by
     rw[Nat.pow_succ]at h;omega
    obtain⟨x,l,ay,aV,ct⟩:=Lv ao ag f (u/ 128) F (acc++[((u%128+128:Nat):Int)]) ae (by omega) (by omega)
    refine⟨x,((u%128+128:Nat):Int)::l,?_,?_,ct⟩
    ·rw[Lf (ag u acc hu s0),ay,List.append_assoc,List.singleton_append]
    ·unfold kM
     rw[if_neg hu,List.map_cons,aV,List.cons_append]
theorem Lx{R:Type}{b:Int × List Int→Step R (Int × List Int)}(ao: ∀(u:Nat) acc,u<128→b ((u:Int),acc)= .b7 ((u:Int),acc))
 (ag: ∀(u:Nat) acc,¬u<128→u<18446744073709551616→b ((u:Int),acc)= .bx (((u/ 128:Nat):Int),acc++[((u%128+128:Nat):Int)])){u:Nat}(s0:u<18446744073709551616):
 ∃(x:Nat) (l:List Int),b9 b cu ((u:Int),[])= .inr ((x:Int),l)∧bytesOf (List.append l [IntKind.wrap .u8 (x:Int)])=kg u:=by
 obtain⟨x,l,ay,aV,ct⟩:=Lv ao ag 9 u cu [] (Nat.lt_of_lt_of_le s0 (by decide)) s0 (by decide)
 refine⟨x,l,ay,?_⟩
 unfold kg
 rw[aV,IntKind.wrap_u8',show(x:Int)%256=(x:Int)by omega]
 rfl
theorem Ly{n:Int}(h:df n):aZ .xor .u64 (aZ .shl .u64 (IntKind.wrap .u64 n) 1) (IntKind.wrap .u64 (aZ .shr .i64 n 63))=((gw n:Nat):Int):=by
 have:aZ .shr .i64 n 63=n.fdiv 9223372036854775808:=rfl
 rw[this]
 exact S3 h
theorem Au{n:Int}(h:df n):fB n=kg (gw n):=by
 obtain⟨x,l,ay,aV⟩:=Lx (R:=ByteArray) (b:=s3 ByteArray) (fun u acc=>Ts _ acc) (fun u acc h _=>Lt _ acc h) (p7 h)
 unfold fB
 rw[Ly h]
 show Sum.elim _ _ (b9 (s3 ByteArray) cu (((gw n:Nat):Int),[]))=_
 rw[ay]
 exact aV
theorem D7{n:Int}(h:df n):hA n=kg (gw n):=by
 obtain⟨x,l,ay,aV⟩:=Lx (R:=ByteArray) (b:=s4 ByteArray) (fun u acc=>Tt _ acc) (fun u acc h ae=>Lu _ acc h ae) (p7 h)
 have aK:=Ld h
 unfold hA
 dsimp only
 have key: ∀v:Int,v=((gw n:Nat):Int)→Sum.elim (fun r=>r) (fun bj:Int × List Int=>bytesOf (List.append bj.2 [IntKind.wrap .u8 bj.1])) (b9 (s4 ByteArray) cu (v,[]))=kg (gw n):=by
  rintro v rfl
  rw[ay];exact aV
 cases hd:decide (n<0)with
 |true=>
  rw[hd,cond_true]at aK;exact key _ aK
 |false=>
  rw[hd,cond_false]at aK;exact key _ aK
theorem u5{u:Nat}:(kg u).size≤10:=by rw[Lh];exact S8 9 u
def p9(d:Int × List Int):Prop:=∃(u f:Nat),d.1=(u:Int)∧u<18446744073709551616∧u<128*128^f∧d.2.length+f≤9
theorem Lz{u:Nat}(h:u<18446744073709551616):p9 ((u:Int),[]):=⟨u,9,rfl,h,Nat.lt_of_lt_of_le h (by decide),Nat.le_refl _⟩
theorem LA{u:Nat}{acc:List Int}(h:p9 ((u:Int),acc))(hu: ¬u<128):p9 (((u/ 128:Nat):Int),acc++[((u%128+128:Nat):Int)]):=by
 obtain⟨v,f,aa,ae,aq,aT⟩:=h
 have:u=v:=by have:(u:Int)=v:=aa;omega
 subst this
 cases f with
 |zero=>exact absurd aq (by simpa using hu)
 |succ f=>
  have aT:acc.length+(f+1)≤9:=aT
  exact⟨u/ 128,f,rfl,by omega,by rw[Nat.pow_succ]at aq;omega,by show(acc++[_]).length+f≤9;rw[List.length_append];simp;omega⟩
theorem Av{d:Int × List Int}(h:p9 d):d.2.length≤9:=by
 obtain⟨_,f,_,_,_,aT⟩:=h
 omega
theorem LB{d:Int × List Int}(h:p9 d): ∃(u:Nat) (acc:List Int),d=((u:Int),acc)∧u<18446744073709551616:=by
 obtain⟨u,_,aa,ae,_⟩:=h
 exact⟨u,d.2,by rw[←aa],ae⟩
theorem u6{n:Int}(h:df n):nZ n:=by
 unfold nZ
 rw[Ly h]
 refine⟨p9,fun d=>d.1.toNat,Lz (p7 h),?_,fun d hd=>⟨fun hc=>?_,fun hc=>?_⟩⟩
 ·have:=p7 h
  show(((gw n:Nat):Int)).toNat<cu;unfold cu;omega
 ·obtain⟨u,acc,rfl,hu⟩:=LB hd
  have ao:acc.length≤9:=Av hd
  have hc: ¬u<128:=by have:=of_decide_eq_true hc;simp only at this;omega
  have ad:=Lt Unit acc hc
  unfold s3 at ad;rw[show decide ((u:Int)≥128)=true from decide_eq_true (by omega),cond_true]at ad
  have ay:=congrArg (fun s=>match s with|Step.bx x=>x.1|_=>0) ad
  have aV:=congrArg (fun s=>match s with|Step.bx x=>x.2|_=>[]) ad
  simp only at ay aV;refine⟨⟨?_,?_⟩,?_,?_⟩
  ·show acc.length+1≤maxLen
   unfold maxLen;omega
  ·show(acc.length+1)*1≤_
   omega
  ·show p9 (aZ .shr .u64 (u:Int) 7,List.append acc [aZ .or .u8 (IntKind.wrap .u8 (u:Int)) 128])
   rw[ay,aV];exact LA hd hc
  ·show(aZ .shr .u64 (u:Int) 7).toNat<(u:Int).toNat
   rw[ay];omega
 ·have ao:=Av hd
  refine⟨?_,?_⟩
  ·show d.2.length+1≤maxLen
   unfold maxLen;omega
  ·show(d.2.length+1)*1≤_
   omega
theorem rE{n:Int}(h:df n):lq n:=by
 have key: ∀v:Int,v=((gw n:Nat):Int)→∃(b1:(Int × (List Int))→Prop) (dL:(Int × (List Int))→Nat),b1 (v,[])∧dL (v,[])<cu∧∀(d0:Int × (List Int)),b1 d0→(
  ((decide (d0.1≥128))=true→(
   let v11:List Int:=([(IntKind.wrap .u8 ((IntKind.wrap .u8 (aZ .rem .u64 d0.1 (128:Int)))+(128:Int)))]:List Int)
   (List.length d0.2+List.length v11≤maxLen∧(List.length d0.2+List.length v11)*1≤140737488355328)∧
   b1 ((aZ .quo .u64 d0.1 (128:Int)),(List.append d0.2 v11))∧dL ((aZ .quo .u64 d0.1 (128:Int)),(List.append d0.2 v11))<dL d0))∧((decide (d0.1≥128))=false→(
   List.length d0.2+List.length ([IntKind.wrap .u8 d0.1]:List Int)≤maxLen∧(List.length d0.2+List.length ([IntKind.wrap .u8 d0.1]:List Int))*1≤140737488355328))):=by
   rintro v rfl
   refine⟨p9,fun d=>d.1.toNat,Lz (p7 h),?_,fun d hd=>⟨fun hc=>?_,fun hc=>?_⟩⟩
   ·have:=p7 h
    show(((gw n:Nat):Int)).toNat<cu;unfold cu;omega
   ·obtain⟨u,acc,rfl,hu⟩:=LB hd
    have ao:acc.length≤9:=Av hd
    have hc: ¬u<128:=by have:=of_decide_eq_true hc;simp only at this;omega
    have ad:=Lu Unit acc hc hu
    unfold s4 at ad;rw[show decide ((u:Int)≥128)=true from decide_eq_true (by omega),cond_true]at ad
    have ay:=congrArg (fun s=>match s with|Step.bx x=>x.1|_=>0) ad
    have aV:=congrArg (fun s=>match s with|Step.bx x=>x.2|_=>[]) ad
    simp only at ay aV;refine⟨⟨?_,?_⟩,?_,?_⟩
    ·show acc.length+1≤maxLen
     unfold maxLen;omega
    ·show(acc.length+1)*1≤_
     omega
    ·show p9 (aZ .quo .u64 (u:Int) 128,List.append acc [IntKind.wrap .u8 (IntKind.wrap .u8 (aZ .rem .u64 (u:Int) 128)+128)])
     rw[ay,aV];exact LA hd hc
    ·show(aZ .quo .u64 (u:Int) 128).toNat<(u:Int).toNat
     rw[ay];omega
   ·have ao:=Av hd
    refine⟨?_,?_⟩
    ·show d.2.length+1≤maxLen
     unfold maxLen;omega
    ·show(d.2.length+1)*1≤_
     omega
 have aK:=Ld h
 unfold lq
 refine⟨fun hd=>?_,fun hd=>?_⟩
 ·rw[hd,cond_true]at aK
  exact key _ aK
 ·rw[hd,cond_false]at aK
  exact key _ aK
def bq(s:ByteArray):Prop:=s.size≤140737488351232
theorem bq.i64{s:ByteArray}(h:bq s):df (s.size:Int):=by unfold bq at h;exact⟨by omega,by omega⟩
theorem Aw{s:ByteArray}(h:bq s):hB s=kg (gw s.size)++s:=by
 unfold hB
 rw[Au h.i64]
 rfl
theorem Tu{s:ByteArray}(h:bq s):kN s=kg (gw s.size)++s:=by
 unfold kN
 rw[D7 h.i64]
 rfl
theorem Tv(a b:ByteArray):(a++b).size=a.size+b.size:=ByteArray.size_append
theorem u7{s:ByteArray}(h:bq s):(hB s).size≤140737488351242:=by
 rw[Aw h,ByteArray.size_append]
 have:=u5 (u:=gw s.size)
 unfold bq at h
 omega
theorem xA{s:ByteArray}(h:bq s):rF s:=by
 refine⟨u6 h.i64,?_⟩
 have:=u5 (u:=gw s.size)
 rw[Au h.i64]
 unfold bq at h
 omega
theorem xB{s:ByteArray}(h:bq s):rG s:=by
 refine⟨rE h.i64,?_⟩
 have:=u5 (u:=gw s.size)
 rw[D7 h.i64]
 unfold bq at h
 omega
theorem o5{s:ByteArray}(h:bq s):kN s=hB s:=by rw[Tu h,Aw h]
theorem n1{n:Int}(h:df n):hA n=fB n:=by rw[D7 h,Au h]
theorem mv{n:Int}(h:df n):(fB n).size≤10:=by rw[Au h];exact u5
end Go.aL
namespace Go.aL
open Go Go.ei
theorem LC(r:Rd)(n:Int):0≤(gi r n).1:=by
 unfold gi
 cases cV:((jz ((cU r).2)) != 0)with
 |true=>exact Int.le_refl _
 |false=>
  simp only[cond_false]
  cases fV:decide ((cU r).1<0)with
  |true=>exact Int.le_refl _
  |false=>
   simp only[cond_false]
   have fV:=of_decide_eq_false fV
   cases mw:decide ((cU r).1>(if 0>n then 0 else n))with
   |true=>exact Int.le_refl _
   |false=>
    simp only[cond_false];omega
theorem qa(v:bH):eP v=kf v:=by
 unfold eP kf bb
 dsimp only
 have:D8 v.n=xo v.n:=rfl
 rw[this]
 cases (v.kind==0)<;>cases (v.kind==4)<;>cases (v.kind==1)<;>cases (v.kind==2)<;>cases (v.kind==3)<;>rfl
theorem LD(v:bH):lW v=rz v:=by
 unfold lW rz bb
 dsimp only
 cases (v.kind==0)<;>cases (v.kind==4)<;>cases (v.kind==1)<;>cases (v.kind==2)<;>cases (v.kind==3)<;>rfl
theorem u9(v:bH):lW v=eP v:=by rw[LD,qa,La]
theorem qb(r:Rd):nt r=(r,jz r):=by
 unfold nt jz
 cases r.made<;>rfl
theorem qc(r:cd):my r=(r,fU r):=by
 unfold my fU
 cases r.made<;>rfl
def dy(s:ByteArray):Prop:=s.size≤4611686018427387904
theorem xC{s:ByteArray}{k:Nat}(h:k<s.size):s.data.toList[k]? =some (s.data.toList.getD k 0)∧aC s (k:Int)=((s.data.toList.getD k 0).toNat:Int):=by
 have ao:k<s.data.toList.length:=h
 refine⟨by rw[List.getD_eq_getElem?_getD,List.getElem?_eq_getElem ao];rfl,?_⟩
 unfold aC
 rw[Int.toNat_natCast]
theorem LF{s:ByteArray}(h:dy s):xD s=jy s:=by
 unfold dy at h
 unfold xD jy xn
 dsimp only
 rw[Int.toNat_natCast,xE (b:=p4 s) (fun _ _=>True) s.size (fun i v hi _=>⟨?_,fun _ _=>trivial⟩) s.size 0 0 (Nat.zero_add _) trivial]
 ·cases bV (p4 s) 0 s.size 0<;>rfl
 ·obtain⟨ay,aV⟩:=xC hi
  unfold p4;dsimp only;rw[ay,aV];dsimp only
  have hw:IntKind.wrap .i64 ((i:Int)+1)=((i+1:Nat):Int):=by rw[dw _ (by omega) (by omega)];omega
  rw[hw];rfl
theorem o6{r:Rd}(h:dy r.rest):il r=((cU r).2,(cU r).1):=by
 unfold il cU
 rw[qb]
 dsimp only
 rw[LF h]
 cases (jz r != 0)with
 |true=>rfl
 |false=>
  simp only[cond_false]
  cases ((jy r.rest).2.2 != 0)<;>rfl
theorem LG{s:ByteArray}{a b:Nat}(h:dy s):dy (s.extract a b):=by
 unfold dy at h⊢
 rw[ByteArray.size_extract]
 omega
theorem rH{r:Rd}(h:dy r.rest):dy (cU r).2.rest:=by
 unfold cU
 simp only[cond_eq_ite]
 repeat' split
 all_goals first|exact h|exact LG h
theorem Tw{r:Rd}{n:Int}(h:dy r.rest):dy (gi r n).2.rest:=by
 have:=rH h
 unfold gi
 simp only[cond_eq_ite]
 repeat' split
 all_goals exact this
theorem Ax{r:Rd}{n:Int}(h:dy r.rest):dy (iE r n).2.rest:=by
 have:=Tw (n:=n) h
 unfold iE
 simp only[cond_eq_ite]
 repeat' split
 all_goals first|exact this|exact LG this
theorem LH{r:Rd}{n:Int}(h:dy r.rest):xF r n=((gi r n).2,(gi r n).1):=by
 unfold xF gi
 rw[o6 h]
 dsimp only
 rw[qb]
 simp only[cond_eq_ite]
 repeat' split
 all_goals first|rfl|(simp_all[b4.den])
theorem rI{r:Rd}{n:Int}(h:dy r.rest):iF r n=((iE r n).2,(iE r n).1):=by
 unfold iF iE
 rw[LH h]
 dsimp only
 rw[qb]
 simp only[cond_eq_ite]
 repeat' split
 all_goals rfl
theorem Tx(r:Rd)(e:Int):Ay r e=ry r e:=by
 unfold Ay ry
 rw[qb]
theorem LI(r:Rd):(⟨r.rest,r.err,r.made⟩:Rd)=r:=rfl
theorem LJ{r:Rd}(h:dy r.rest):s5 r=((o1 r).2,(o1 r).1):=by
 have aa:=rH h
 unfold s5 o1 rA sV sW
 rw[o6 h]
 dsimp only
 rw[o6 aa,rI aa]
 simp only[qb,Tx,qa,LI]
 cases ((cU r).1==1)<;>cases ((cU r).1==2)<;>cases ((cU r).1==3)<;>cases ((cU r).1==4)<;>simp only[cond_true,cond_false,Bool.true_or,Bool.or_true,Bool.false_or,Bool.or_false,LI]<;>(cases (kf _ != 0)<;>simp only[cond_true,cond_false]<;>(cases (jz _ != 0)<;>rfl))
theorem Ty(r:Rd):(Az r).2=o0 r:=by
 unfold Az D9 o0 DW
 rw[qb]
 dsimp only
 cases (jz r != 0)<;>simp only[cond_true,cond_false]<;>rw[qb]<;>simp only[cond_eq_ite]<;>split<;>rfl
theorem n2{q:cd}(an:jg q):im q=((c9 q).2,(c9 q).1):=by
 have lr:=an
 obtain⟨aa,ae,aq⟩:=an
 unfold im c9 DX
 rw[qc]
 dsimp only
 cases (fU q != 0)with
 |true=>rfl
 |false=>
  simp only[cond_false]
  rw[show Int.toNat 10=10 from rfl,xE (b:=fun i v=>hM (fun x:Int × dC=>(x.2,x.1)) (nr q i v)) (fun _ _=>True) 10 (fun i v hi _=>⟨?_,fun _ _=>trivial⟩) 10 0 0 (Nat.zero_add _) trivial,
   s6 (fun x:Int × dC=>(x.2,x.1)) (b:=nr q) (fun _ _=>rfl)]
  ·cases bV (nr q) 0 10 0<;>rfl
  ·have cn:IntKind.wrap .i64 (q.at_+(i:Int))=q.at_+(i:Int):=dw _ (by omega) (by omega)
   unfold nr;dsimp only
   cases hd:decide (IntKind.wrap .i64 (q.at_+(i:Int))≥(q.s.size:Int))with
   |true=>rfl
   |false=>
    have hd:=of_decide_eq_false hd
    rw[cn]at hd;obtain⟨j,ai⟩: ∃j:Nat,q.at_+(i:Int)=(j:Int):=⟨(q.at_+i).toNat,by omega⟩
    obtain⟨ay,aV⟩:=xC (s:=q.s) (k:=j) (by omega)
    simp only[cond_false];rw[cn,ai,Int.toNat_natCast,ay,aV];dsimp only;show(bif _ then _ else bif _ then(bif _ then _ else _)else _)=hM _ (bif _ then _ else bif _ then _ else _)
    simp only[cond_eq_ite]
    split
    ·rfl
    ·split
     ·show(if _ then _ else _)=Step.ret (_,if _ then _ else _)
      have ad: ∀(c:Bool) (A:cd) (x y:Int),(if c=true then(Step.ret (A,x):Step (cd × Int) Int)else Step.ret (A,y))=Step.ret (A,if c=true then x else y):=fun c A x y=>by cases c<;>rfl
      exact ad _ _ _ _
     ·rfl
theorem LK{q:cd}{n:Int}(an:jg q):xG q n=((dc q n).2,(dc q n).1):=by
 unfold xG dc
 rw[n2 an]
 dsimp only
 rw[qc]
 cases decide (n<0)<;>simp only[cond_true,cond_false]<;>simp only[cond_eq_ite]<;>(repeat' split)<;>rfl
theorem qd{q:cd}{n:Int}(an:jg q):iG q n=((lp q n).2,(lp q n).1):=by
 obtain⟨aa,ae,aq⟩:=D4 (n:=n) an
 have hn:=As q n
 unfold iG lp
 rw[LK an]
 dsimp only
 rw[qc]
 dsimp only
 have cn:IntKind.i64.wrap (((dc q n).2.s.size:Int)-(dc q n).2.at_)=((dc q n).2.s.size:Int)-(dc q n).2.at_:=dw _ (by omega) (by omega)
 rw[cn]
 cases (fU (dc q n).2 != 0)with
 |true=>rfl
 |false=>
  simp only[cond_false]
  cases hd:decide ((dc q n).1>((dc q n).2.s.size:Int)-(dc q n).2.at_)with
  |true=>rfl
  |false=>
   have hd:=of_decide_eq_false hd
   have cH:IntKind.i64.wrap ((dc q n).2.at_+(dc q n).1)=(dc q n).2.at_+(dc q n).1:=dw _ (by omega) (by omega)
   simp only[cond_false];rw[cH];rfl
theorem Tz(q:cd)(e:Int):AA q e=xp q e:=by
 unfold AA xp
 rw[qc]
theorem LL(r:cd):(⟨r.s,r.at_,r.bad,r.made⟩:cd)=r:=rfl
theorem LM{q:cd}(an:jg q):s7 q=((u1 q).2,(u1 q).1):=by
 have aa:=Ar an
 have ae:=D5 (n:=60) aa
 unfold s7 u1 sZ o2 sY mq sX
 rw[n2 an]
 dsimp only
 rw[qd aa]
 simp only[LL]
 rw[n2 aa,n2 ae]
 simp only[qc,Tz,LD,LL]
 cases ((c9 q).1==4)<;>simp only[cond_true,cond_false]<;>cases (decide ((c9 q).1≥1)&&decide ((c9 q).1≤3))<;>simp only[cond_true,cond_false]<;>(cases fW:(fU _==0)<;>simp only[cond_true,cond_false,Bool.true_and,Bool.false_and,bne_self_eq_false])<;>(repeat (cases (rz _ != 0)<;>simp only[cond_true,cond_false]))<;>(cases (fU _ != 0)<;>rfl)
theorem TA(q:cd):(AB q).2=Ao q:=by
 unfold AB Ao
 rw[qc]
 dsimp only
 rw[qc]
 simp only[cond_eq_ite]
 repeat' split
 all_goals rfl
end Go.aL
namespace Go.aL
open Go Go.ei
theorem TB{s:ByteArray}(h:dy s):Ea s:=by
 unfold dy at h
 refine⟨⟨by omega,by omega⟩,fun i _=>i≤9,Nat.zero_le _,fun i d _ hi=>?_⟩
 have hi:i≤9:=hi
 intro v5 hc
 refine⟨?_,fun e5=>?_⟩
 ·show 0≤IntKind.wrap .i64 (7*(i:Int))
  rw[dw _ (by omega) (by omega)]
  omega
 ·have e5:=of_decide_eq_false e5
  show i+1≤9
  rcases Nat.lt_or_ge i 9 with ij|ij
  ·exact ij
  ·have:i=9:=by omega
   subst this;simp only[Bool.or_eq_false_iff,Bool.and_eq_false_iff]at hc
   rcases hc.2 with h|h
   ·exact absurd h (by decide)
   ·have:=of_decide_eq_false h
    omega
theorem TC{s:ByteArray}(h:(jy s).2.2=0):0≤(jy s).2.1∧(jy s).2.1≤(s.size:Int):=by
 obtain⟨u,t,aa,ae,aq,aT⟩:=Lo (s:=s) (U:=(jy s).1) (N:=(jy s).2.1) (by rw[←h])
 rw[aq]
 have:=congrArg ByteArray.size ae
 rw[ByteArray.size_append]at this
 omega
theorem rJ{r:Rd}(h:dy r.rest):qe r:=by
 unfold qe
 rw[qb]
 intro v1 _
 refine⟨TB h,fun hc=>?_⟩
 have hc:=Ap hc
 rw[LF h]at hc⊢
 exact TC hc
theorem TD{r:Rd}{n:Int}(h:dy r.rest):Eb r n:=rJ h
theorem s8{r:Rd}{n:Int}(h:dy r.rest):s9 r n:=by
 refine⟨TD h,?_⟩
 rw[LH h]
 show(_ != 0)=false→_
 rw[qb]
 intro _ hd
 have hd:=of_decide_eq_false hd
 have hn:=LC r n
 have hd: ¬(gi r n).1>((gi r n).2.rest.size:Int):=hd
 exact⟨⟨hn,by omega⟩,hn,by omega⟩
theorem TE{r:Rd}(h:dy r.rest):AD r:=by
 have aa:=rH h
 unfold AD
 rw[o6 h]
 dsimp only
 refine⟨rJ h,⟨fun _=>⟨fun _=>rJ aa,fun _ _=>s8 aa⟩,fun _=>⟨fun _=>⟨fun _=>rJ aa,fun _ _=>s8 aa⟩,fun _=>⟨fun _=>rJ aa,fun _ _=>s8 aa⟩⟩⟩⟩
theorem TF{r:Rd}{e:Int}(h:dy r.rest):dy (ry r e).rest:=by
 unfold ry
 cases (jz r==0)<;>exact h
theorem TG{r:Rd}(h:dy r.rest):dy (o1 r).2.rest:=by
 have aa:=rH h
 have ae:dy (sW r).rest:=by
  unfold sW;simp only[cond_eq_ite]
  repeat' split
  ·exact rH aa
  ·exact Ax aa
  ·exact aa
 have aq:dy (rA r).rest:=by
  unfold rA;simp only[cond_eq_ite]
  split
  ·exact TF ae
  ·exact ae
 unfold o1
 simp only[cond_eq_ite]
 split<;>exact aq
def kO(s:ByteArray):Int × Rd:=cU (K7 s)
def kP(s:ByteArray):Int × Rd:=cU (kO s).2
def mz(s:ByteArray):Int × Rd:=cU (kP s).2
def mA(s:ByteArray):ByteArray × Rd:=iE (mz s).2 24
def mB(s:ByteArray):ByteArray × Rd:=iE (mA s).2 24
def nu(s:ByteArray):ByteArray × Rd:=iE (mB s).2 24
def o7(s:ByteArray):bH × Rd:=o1 (nu s).2
def ki(s:ByteArray):ByteArray × Rd:=iE (o7 s).2 20000
def eB(s:ByteArray):dD:=⟨(kO s).1,(kP s).1,⟨(mz s).1,(mA s).1,(mB s).1⟩,(nu s).1,(o7 s).1,(ki s).1⟩
def AE:dD:=⟨0,0,⟨0,⟨#[]⟩,⟨#[]⟩⟩,⟨#[]⟩,⟨0,0,⟨#[]⟩⟩,⟨#[]⟩⟩
def gy(s:ByteArray):dD × Int:=
 if o0 (ki s).2≠0 then(AE,o0 (ki s).2)else if(eB s).kind<1∨(eB s).kind>7 then(AE,7)else if(eB s).cW<0∨(eB s).cW>1099511627776 then(AE,2)else(eB s,0)
theorem LN{s:ByteArray}(h:dy s):dy (kO s).2.rest∧dy (kP s).2.rest∧dy (mz s).2.rest∧dy (mA s).2.rest∧dy (mB s).2.rest∧dy (nu s).2.rest∧dy (o7 s).2.rest:=by
 have aa:dy (kO s).2.rest:=rH h
 have ae:dy (kP s).2.rest:=rH aa
 have aq:dy (mz s).2.rest:=rH ae
 have aT:dy (mA s).2.rest:=Ax aq
 have bD:dy (mB s).2.rest:=Ax aT
 have cA:dy (nu s).2.rest:=Ax bD
 exact⟨aa,ae,aq,aT,bD,cA,TG cA⟩
theorem va{s:ByteArray}(h:dy s):hC s=gy s:=by
 obtain⟨aa,ae,aq,aT,bD,cA,dx⟩:=LN h
 have ay:il ⟨s,0,true⟩=((kO s).2,(kO s).1):=o6 (r:=⟨s,0,true⟩) h
 have aV:il (kO s).2=((kP s).2,(kP s).1):=o6 aa
 have ct:il (kP s).2=((mz s).2,(mz s).1):=o6 ae
 have eA:iF (mz s).2 24=((mA s).2,(mA s).1):=rI aq
 have nY:iF (mA s).2 24=((mB s).2,(mB s).1):=rI aT
 have ta:iF (mB s).2 24=((nu s).2,(nu s).1):=rI bD
 have tc:s5 (nu s).2=((o7 s).2,(o7 s).1):=LJ cA
 have xu:iF (o7 s).2 20000=((ki s).2,(ki s).1):=rI dx
 unfold hC gy
 simp only[ay,aV,ct,eA,nY,ta,tc,xu,Ty]
 unfold Ec Ed
 by_cases fW:o0 (ki s).2=0
 ·rw[fW,if_neg (fun h=>h rfl)]
  simp only[bne_self_eq_false,cond_false];show(bif(bif(decide ((eB s).kind<1)||decide ((eB s).kind>7))then(7:Int)else 0) != 0 then _ else _)=_
  by_cases hK:(eB s).kind<1∨(eB s).kind>7
  ·rw[if_pos hK,show(decide ((eB s).kind<1)||decide ((eB s).kind>7))=true by simpa using hK]
   have:(decide ((kO s).1<1)||decide ((kO s).1>7))=true:=by have hK:(kO s).1<1∨(kO s).1>7:=hK;simpa using hK
   rw[this];rfl
  ·rw[if_neg hK,show(decide ((eB s).kind<1)||decide ((eB s).kind>7))=false by simp only[not_or]at hK;simp only[Bool.or_eq_false_iff,decide_eq_false_iff_not];exact hK]
   show(bif(bif(decide ((eB s).cW<0)||decide ((eB s).cW>1099511627776))then(2:Int)else 0) != 0 then _ else _)=_
   by_cases ha:(eB s).cW<0∨(eB s).cW>1099511627776
   ·rw[if_pos ha,show(decide ((eB s).cW<0)||decide ((eB s).cW>1099511627776))=true by simpa using ha]
    have:(decide ((kP s).1<0)||decide ((kP s).1>1099511627776))=true:=by have ha:(kP s).1<0∨(kP s).1>1099511627776:=ha;simpa using ha
    rw[this];rfl
   ·rw[if_neg ha,show(decide ((eB s).cW<0)||decide ((eB s).cW>1099511627776))=false by simp only[not_or]at ha;simp only[Bool.or_eq_false_iff,decide_eq_false_iff_not];exact ha]
    rfl
 ·rw[if_pos fW,show(o0 (ki s).2 != 0)=true by simpa using fW]
  simp only[cond_true];rfl
theorem LO{s:ByteArray}(h:dy s):vb s:=by
 obtain⟨aa,ae,aq,aT,bD,cA,dx⟩:=LN h
 have ay:il ⟨s,0,true⟩=((kO s).2,(kO s).1):=o6 (r:=⟨s,0,true⟩) h
 have aV:il (kO s).2=((kP s).2,(kP s).1):=o6 aa
 have ct:il (kP s).2=((mz s).2,(mz s).1):=o6 ae
 have eA:iF (mz s).2 24=((mA s).2,(mA s).1):=rI aq
 have nY:iF (mA s).2 24=((mB s).2,(mB s).1):=rI aT
 have ta:iF (mB s).2 24=((nu s).2,(nu s).1):=rI bD
 have tc:s5 (nu s).2=((o7 s).2,(o7 s).1):=LJ cA
 unfold vb
 simp only[ay,aV,ct,eA,nY,ta,tc]
 exact⟨rJ (r:=⟨s,0,true⟩) h,rJ aa,rJ ae,s8 aq,s8 aT,s8 bD,TE cA,s8 dx⟩
def n3(s:ByteArray):Int × cd:=c9 (K8 s)
def n4(s:ByteArray):Int × cd:=c9 (n3 s).2
def o8(s:ByteArray):Int × cd:=c9 (n4 s).2
def o9(s:ByteArray):ByteArray × cd:=lp (o8 s).2 24
def pa(s:ByteArray):ByteArray × cd:=lp (o9 s).2 24
def pb(s:ByteArray):ByteArray × cd:=lp (pa s).2 24
def n5(s:ByteArray):bH × cd:=u1 (pb s).2
def xH(s:ByteArray):ByteArray × cd:=lp (n5 s).2 20000
theorem AF{s:ByteArray}(h:dy s):ik (K7 s) (K8 s):=by
 refine⟨⟨Int.le_refl _,by show(0:Int)≤s.size;omega,h⟩,?_⟩
 show(⟨s,0,true⟩:Rd)=⟨s.extract 0 s.size,0,true⟩
 rw[show s.extract 0 s.size=s from o3 (by rw[p8];rfl)]
theorem LP{s:ByteArray}(h:dy s):((kO s).1=(n3 s).1∧ik (kO s).2 (n3 s).2)∧((kP s).1=(n4 s).1∧ik (kP s).2 (n4 s).2)∧((mz s).1=(o8 s).1∧ik (mz s).2 (o8 s).2)∧((mA s).1=(o9 s).1∧ik (mA s).2 (o9 s).2)∧
 ((mB s).1=(pa s).1∧ik (mB s).2 (pa s).2)∧((nu s).1=(pb s).1∧ik (nu s).2 (pb s).2)∧((o7 s).1=(n5 s).1∧ik (o7 s).2 (n5 s).2)∧((ki s).1=(xH s).1∧ik (ki s).2 (xH s).2):=by
 have aa:=u4 _ _ (AF h)
 have ae:=u4 _ _ aa.2
 have aq:=u4 _ _ ae.2
 have aT:=xy 24 _ _ aq.2
 have bD:=xy 24 _ _ aT.2
 have cA:=xy 24 _ _ bD.2
 have dx:=Tn _ _ cA.2
 exact⟨aa,ae,aq,aT,bD,cA,dx,xy 20000 _ _ dx.2⟩
theorem Ee{s:ByteArray}(h:dy s):nv s=gy s:=by
 obtain⟨s1,s2,hb,kj,kk,kl,kQ,Ef⟩:=LP h
 have ay:im ⟨s,0,0,true⟩=((n3 s).2,(n3 s).1):=n2 (q:=⟨s,0,0,true⟩) (AF h).1
 have aV:im (n3 s).2=((n4 s).2,(n4 s).1):=n2 s1.2.1
 have ct:im (n4 s).2=((o8 s).2,(o8 s).1):=n2 s2.2.1
 have eA:iG (o8 s).2 24=((o9 s).2,(o9 s).1):=qd hb.2.1
 have nY:iG (o9 s).2 24=((pa s).2,(pa s).1):=qd kj.2.1
 have ta:iG (pa s).2 24=((pb s).2,(pb s).1):=qd kk.2.1
 have tc:s7 (pb s).2=((n5 s).2,(n5 s).1):=LM kl.2.1
 have xu:iG (n5 s).2 20000=((xH s).2,(xH s).1):=qd kQ.2.1
 unfold nv gy
 simp only[ay,aV,ct,eA,nY,ta,tc,xu,TA]
 rw[←Tp Ef.2]
 have aj:(n3 s).1=(eB s).kind:=s1.1.symm
 have hn:(n4 s).1=(eB s).cW:=s2.1.symm
 have hd:(⟨(n3 s).1,(n4 s).1,⟨(o8 s).1,(o9 s).1,(pa s).1⟩,(pb s).1,⟨(n5 s).1.kind,(n5 s).1.n,(n5 s).1.s⟩,(xH s).1⟩:dD)=eB s:=by
  unfold eB;rw[s1.1,s2.1,hb.1,kj.1,kk.1,kl.1,kQ.1,Ef.1]
 rw[hd,aj,hn]
 by_cases fW:o0 (ki s).2=0
 ·rw[fW,if_neg (fun h=>h rfl)]
  simp only[bne_self_eq_false,cond_false]
  by_cases hK:(eB s).kind<1∨(eB s).kind>7
  ·rw[if_pos hK,show(decide ((eB s).kind<1)||decide ((eB s).kind>7))=true by simpa using hK]
   rfl
  ·rw[if_neg hK,show(decide ((eB s).kind<1)||decide ((eB s).kind>7))=false by simp only[not_or]at hK;simp only[Bool.or_eq_false_iff,decide_eq_false_iff_not];exact hK]
   by_cases ha:(eB s).cW<0∨(eB s).cW>1099511627776
   ·rw[if_pos ha,show(decide ((eB s).cW<0)||decide ((eB s).cW>1099511627776))=true by simpa using ha]
    rfl
   ·rw[if_neg ha,show(decide ((eB s).cW<0)||decide ((eB s).cW>1099511627776))=false by simp only[not_or]at ha;simp only[Bool.or_eq_false_iff,decide_eq_false_iff_not];exact ha]
    rfl
 ·rw[if_pos fW,show(o0 (ki s).2 != 0)=true by simpa using fW]
  rfl
theorem td{q:cd}(an:jg q):qf q:=by
 obtain⟨aa,ae,aq⟩:=an
 unfold qf
 rw[qc]
 intro v1 _
 refine⟨fun _ _=>True,trivial,fun i d hi _=>?_⟩
 have hi:i<10:=hi
 have cn:IntKind.wrap .i64 (q.at_+(i:Int))=q.at_+(i:Int):=dw _ (by omega) (by omega)
 show decide (IntKind.wrap .i64 (q.at_+(i:Int))≥(q.s.size:Int))=false→(0≤IntKind.wrap .i64 (q.at_+(i:Int))∧IntKind.wrap .i64 (q.at_+(i:Int))<(q.s.size:Int))∧_
 rw[cn]
 intro hd
 have hd:=of_decide_eq_false hd
 refine⟨⟨by omega,by omega⟩,fun _=>⟨?_,fun _=>trivial⟩⟩
 show 0≤IntKind.wrap .i64 (7*(i:Int))
 rw[dw _ (by omega) (by omega)]
 omega
theorem TH{q:cd}{n:Int}(an:jg q):Eg q n:=td an
theorem xI{q:cd}{n:Int}(an:jg q):te q n:=by
 obtain⟨aa,ae,aq⟩:=D4 (n:=n) an
 have hn:=As q n
 refine⟨TH an,?_⟩
 rw[LK an]
 show(_ != 0)=false→_
 rw[qc]
 intro _ hd
 have cn:IntKind.i64.wrap (((dc q n).2.s.size:Int)-(dc q n).2.at_)=((dc q n).2.s.size:Int)-(dc q n).2.at_:=dw _ (by omega) (by omega)
 have hd:decide ((dc q n).1>IntKind.i64.wrap (((dc q n).2.s.size:Int)-(dc q n).2.at_))=false:=hd
 rw[cn]at hd
 have hd:=of_decide_eq_false hd
 have cH:IntKind.i64.wrap ((dc q n).2.at_+(dc q n).1)=(dc q n).2.at_+(dc q n).1:=dw _ (by omega) (by omega)
 show 0≤(dc q n).2.at_∧(dc q n).2.at_≤IntKind.i64.wrap ((dc q n).2.at_+(dc q n).1)∧IntKind.i64.wrap ((dc q n).2.at_+(dc q n).1)≤((dc q n).2.s.size:Int)
 rw[cH]
 omega
theorem TI{q:cd}(an:jg q):AG q:=by
 have aa:=Ar an
 have ae:=D5 (n:=60) aa
 unfold AG
 rw[n2 an]
 dsimp only
 refine⟨td an,fun _=>⟨xI aa,?_⟩,fun _ _=>td aa⟩
 rw[qd aa]
 exact fun _=>td ae
theorem LQ{s:ByteArray}(h:dy s):qg s:=by
 obtain⟨s1,s2,hb,kj,kk,kl,kQ,Ef⟩:=LP h
 have ay:im ⟨s,0,0,true⟩=((n3 s).2,(n3 s).1):=n2 (q:=⟨s,0,0,true⟩) (AF h).1
 have aV:im (n3 s).2=((n4 s).2,(n4 s).1):=n2 s1.2.1
 have ct:im (n4 s).2=((o8 s).2,(o8 s).1):=n2 s2.2.1
 have eA:iG (o8 s).2 24=((o9 s).2,(o9 s).1):=qd hb.2.1
 have nY:iG (o9 s).2 24=((pa s).2,(pa s).1):=qd kj.2.1
 have ta:iG (pa s).2 24=((pb s).2,(pb s).1):=qd kk.2.1
 have tc:s7 (pb s).2=((n5 s).2,(n5 s).1):=LM kl.2.1
 unfold qg
 simp only[ay,aV,ct,eA,nY,ta,tc]
 exact⟨td (q:=⟨s,0,0,true⟩) (AF h).1,td s1.2.1,td s2.2.1,xI hb.2.1,xI kj.2.1,xI kk.2.1,TI kl.2.1,xI kQ.2.1⟩
end Go.aL
namespace Go.aL
open Go Go.ei
def jA(P:Int→Int→Bool)(x:ByteArray):Nat→Nat→Bool
 |_,0=>true
 |k,n+1=>!P (aC x (k:Int)) (k:Int)&&jA P x (k+1) n
theorem Eh{P:Int→Int→Bool}{x:ByteArray}{b:Nat→Unit→Step Bool Unit}(ad: ∀i v,b i v=bif P (aC x (i:Int)) (i:Int)then .ret false else .bx ()):
 ∀(n k:Nat),bV b k n ()=bif jA P x k n then .inr ()else .inl false
 |0,_=>rfl
 |n+1,k=>by
  unfold bV jA;rw[ad]
  cases P (aC x (k:Int)) (k:Int)with
  |true=>rfl
  |false=>exact Eh ad n (k+1)
theorem LR{x:ByteArray}{k:Nat}(aj:k<x.size):aC x (k:Int)=((x[k]'aj).toNat:Int):=by
 rw[(xC aj).2,List.getD_eq_getElem?_getD,List.getElem?_eq_getElem (show k<x.data.toList.length from aj)]
 rfl
theorem Ei{P:Int→Int→Bool}(n6: ∀c i,128≤c→P c i=true){x:ByteArray}{b:Int→Step Bool Int}
 (ad: ∀c,b c=bif b4.den .jh x c then(bif P (b4.den .ji x c) (b4.den .km x c)then .ret false else .bx (b4.den .hY x c))else .b7 c):
 ∀(n p F:Nat),x.size-p=n→n<F→∃v,b9 b F (p:Int)=bif jA P x p n then .inr v else .inl false
 |n,p,0,_,h=>absurd h (Nat.not_lt_zero _)
 |0,p,F+1,hn,_=>by
  refine⟨(p:Int),?_⟩
  have:b4.den .jh x (p:Int)=false:=decide_eq_false (by rw[Int.toNat_natCast];omega)
  rw[Le (y:=(p:Int)) (by rw[ad,this,cond_false]),jA,cond_true]
 |n+1,p,F+1,hn,hF=>by
  have ak:p<x.size:=by omega
  have aa:b4.den .jh x (p:Int)=true:=decide_eq_true (by rw[Int.toNat_natCast];exact ak)
  have aq:b4.den .km x (p:Int)=(p:Int):=by show((p:Int).toNat:Int)=p;rw[Int.toNat_natCast]
  have ae:b4.den .ji x (p:Int)=((Utf8.decode x p).1:Int):=by show((Utf8.decode x (p:Int).toNat).1:Int)=_;rw[Int.toNat_natCast]
  have aT:b4.den .hY x (p:Int)=((p+(Utf8.decode x p).2:Nat):Int):=by show(((p:Int).toNat+(Utf8.decode x (p:Int).toNat).2:Nat):Int)=_;rw[Int.toNat_natCast]
  rcases Nat.lt_or_ge (x[p]'ak).toNat 128 with aK|aK
  ·have hd:=decode_ascii x p ak aK
   have av:((Utf8.decode x p).1:Int)=aC x (p:Int):=by rw[hd,LR ak]
   have TJ:p+(Utf8.decode x p).2=p+1:=by rw[hd]
   cases aJ:P (aC x (p:Int)) (p:Int)with
   |true=>
    refine⟨0,?_⟩
    unfold b9 jA;rw[ad,aa,cond_true,ae,aq,av,aJ];rfl
   |false=>
    obtain⟨v,aQ⟩:=Ei n6 ad n (p+1) F (by omega) (by omega)
    refine⟨v,?_⟩
    rw[Lf (y:=((p+1:Nat):Int)) (by rw[ad,aa,cond_true,ae,aq,av,aJ,cond_false,aT,TJ]),aQ]
    conv=>rhs;rw[jA]
    rw[aJ];rfl
  ·have hd:=(decode_high x p ak aK).1
   have ay:P ((Utf8.decode x p).1:Int) (p:Int)=true:=n6 _ _ (by omega)
   have aV:P (aC x (p:Int)) (p:Int)=true:=n6 _ _ (by rw[LR ak];omega)
   refine⟨0,?_⟩
   unfold b9 jA;rw[ad,aa,cond_true,ae,aq,ay,aV];rfl
theorem LS{P:Int→Int→Bool}(n6: ∀c i,128≤c→P c i=true){x:ByteArray}(s0:x.size<18446744073709551616):
 ∃(b1:Int→Prop) (dL:Int→Nat),b1 0∧dL 0<cu∧∀(d0:Int),b1 d0→(b4.den .jh x d0=true→(P (b4.den .ji x d0) (b4.den .km x d0)=false→b1 (b4.den .hY x d0)∧dL (b4.den .hY x d0)<dL d0)):=by
 refine⟨fun d=>0≤d,fun d=>x.size-d.toNat,Int.le_refl _,by unfold cu;show x.size-(0:Int).toNat<_;omega,fun d hd aa ae=>?_⟩
 obtain⟨p,rfl⟩: ∃p:Nat,d=p:=⟨d.toNat,(Int.toNat_of_nonneg hd).symm⟩
 have ak:p<x.size:=by have:=of_decide_eq_true aa;rwa[Int.toNat_natCast]at this
 have aq:b4.den .km x (p:Int)=(p:Int):=by show((p:Int).toNat:Int)=p;rw[Int.toNat_natCast]
 have AH:b4.den .ji x (p:Int)=((Utf8.decode x p).1:Int):=by show((Utf8.decode x (p:Int).toNat).1:Int)=_;rw[Int.toNat_natCast]
 have aT:b4.den .hY x (p:Int)=((p+(Utf8.decode x p).2:Nat):Int):=by show(((p:Int).toNat+(Utf8.decode x (p:Int).toNat).2:Nat):Int)=_;rw[Int.toNat_natCast]
 rcases Nat.lt_or_ge (x[p]'ak).toNat 128 with aK|aK
 ·have hd:=decode_ascii x p ak aK
  rw[aT,hd];refine⟨by show(0:Int)≤_;omega,?_⟩
  show x.size-(((p+1:Nat):Int)).toNat<x.size-((p:Int)).toNat;omega
 ·have hd:=(decode_high x p ak aK).1
  rw[AH,aq,n6 _ _ (by omega)]at ae
  cases ae
def mC(c i:Int):Bool:=(!(decide (c≥97)&&decide (c≤122)))&&((i==0)||(((c != 95)&&(c != 45))&&((decide (c<48))||(decide (c>57)))))
theorem LU(c i:Int)(h:128≤c):mC c i=true:=by
 unfold mC
 have aa:decide (c≤122)=false:=decide_eq_false (by omega)
 have ae:(c != 95)=true:=by simp;omega
 have aq:(c != 45)=true:=by simp;omega
 have aT:decide (c>57)=true:=decide_eq_true (by omega)
 simp only[aa,ae,aq,aT,Bool.and_false,Bool.not_false,Bool.and_true,Bool.or_true,Bool.true_and]
def valid(x:ByteArray):Bool:=bif((decide ((ByteArray.size x:Int)<1))||(decide ((ByteArray.size x:Int)>24)))then false else jA mC x 0 x.size
theorem vc(x:ByteArray):kn x=valid x:=by
 unfold kn valid
 cases h:((decide ((ByteArray.size x:Int)<1))||(decide ((ByteArray.size x:Int)>24)))with
 |true=>rfl
 |false=>
  simp only[Bool.or_eq_false_iff,decide_eq_false_iff_not]at h;simp only[cond_false];obtain⟨v,av⟩:=Ei LU (x:=x) (b:=fun(aA:Int)=>bif b4.den .jh x aA then(bif mC (b4.den .ji x aA) (b4.den .km x aA)then Step.ret false else .bx (b4.den .hY x aA))else .b7 aA) (fun _=>rfl) x.size 0 cu (by omega) (by unfold cu;omega)
  have:(b9 (fun(aA:Int)=>bif b4.den .jh x aA then(bif mC (b4.den .ji x aA) (b4.den .km x aA)then Step.ret false else .bx (b4.den .hY x aA))else .b7 aA) cu 0:Bool⊕Int)=_:=av
  show Sum.elim _ _ (b9 (fun(aA:Int)=>bif b4.den .jh x aA then(bif mC (b4.den .ji x aA) (b4.den .km x aA)then Step.ret false else .bx (b4.den .hY x aA))else .b7 aA) cu 0:Bool⊕Int)=_
  rw[this]
  cases jA mC x 0 x.size<;>rfl
theorem AI(x:ByteArray):vd x:=by
 intro h
 simp only[Bool.or_eq_false_iff,decide_eq_false_iff_not]at h
 exact LS LU (x:=x) (by omega)
theorem TK(x:ByteArray):tf x=valid x:=by
 unfold tf valid
 dsimp only
 cases h:((decide ((ByteArray.size x:Int)<1))||(decide ((ByteArray.size x:Int)>24)))with
 |true=>rfl
 |false=>
  simp only[cond_false];rw[Int.toNat_natCast];show Sum.elim _ _ (bV (fun(i6:Nat) (_:Unit)=>bif mC (aC x (i6:Int)) (i6:Int)then(Step.ret false:Step Bool Unit)else .bx ()) 0 x.size ())=_
  rw[Eh (P:=mC) (x:=x) (fun _ _=>rfl)]
  cases jA mC x 0 x.size<;>rfl
theorem LV(x:ByteArray):AJ x:=by
 intro h
 simp only[Bool.or_eq_false_iff,decide_eq_false_iff_not]at h
 omega
def pc(c zcI:Int):Bool:=(decide (c<33))||(decide (c>126))
theorem LW(c i:Int)(h:128≤c):pc c i=true:=by
 unfold pc
 rw[decide_eq_true (show c>126 by omega),Bool.or_true]
def seen(x:ByteArray):Bool:=jA pc x 0 x.size&&((decide ((ByteArray.size x:Int)≥1))&&(decide ((ByteArray.size x:Int)≤1000)))
theorem TL{x:ByteArray}(h:x.size<9223372036854775808):ve x=seen x:=by
 unfold ve seen
 obtain⟨v,av⟩:=Ei LW (x:=x) (b:=fun(aA:Int)=>bif b4.den .jh x aA then(bif pc (b4.den .ji x aA) (b4.den .km x aA)then Step.ret false else .bx (b4.den .hY x aA))else .b7 aA) (fun _=>rfl) x.size 0 cu (by omega) (by unfold cu;omega)
 have:(b9 (fun(aA:Int)=>bif b4.den .jh x aA then(bif pc (b4.den .ji x aA) (b4.den .km x aA)then Step.ret false else .bx (b4.den .hY x aA))else .b7 aA) cu 0:Bool⊕Int)=_:=av
 show Sum.elim _ _ (b9 (fun(aA:Int)=>bif b4.den .jh x aA then(bif pc (b4.den .ji x aA) (b4.den .km x aA)then Step.ret false else .bx (b4.den .hY x aA))else .b7 aA) cu 0:Bool⊕Int)=_
 rw[this]
 cases jA pc x 0 x.size<;>rfl
theorem TM{x:ByteArray}(h:x.size<9223372036854775808):Ej x:=LS LW (x:=x) (by omega)
theorem TN(x:ByteArray):vf x=seen x:=by
 unfold vf seen
 dsimp only
 by_cases aa:(x.size:Int)<1
 ·rw[decide_eq_true aa,Bool.true_or,cond_true,decide_eq_false (show ¬(x.size:Int)≥1 by omega),Bool.false_and,Bool.and_false]
 ·by_cases ae:(x.size:Int)>1000
  ·rw[decide_eq_true ae,Bool.or_true,cond_true,decide_eq_false (show ¬(x.size:Int)≤1000 by omega),Bool.and_false,Bool.and_false]
  ·rw[decide_eq_false aa,decide_eq_false ae,Bool.or_false,cond_false,decide_eq_true (show(x.size:Int)≥1 by omega),decide_eq_true (show(x.size:Int)≤1000 by omega),Int.toNat_natCast]
   show Sum.elim _ _ (bV (fun(i6:Nat) (_:Unit)=>bif pc (aC x (i6:Int)) (i6:Int)then(Step.ret false:Step Bool Unit)else .bx ()) 0 x.size ())=_
   rw[Eh (P:=pc) (x:=x) (fun _ _=>rfl)]
   cases jA pc x 0 x.size<;>rfl
theorem TO(x:ByteArray):Ek x:=by
 intro h
 simp only[Bool.or_eq_false_iff,decide_eq_false_iff_not]at h
 omega
end Go.aL
namespace Go.aL
open Go Go.ei
theorem fH(a b:ByteArray):ByteArray.size (ByteArray.append a b)=a.size+b.size:=ByteArray.size_append
theorem df.p{n:Int}(h:df n):gU n:=⟨h.1,by have:=h.2;omega⟩
theorem mD{n:Int}(aa: -1099511627776≤n)(ae:n≤1099511627776):df n:=⟨by omega,by omega⟩
structure qh (v:bH):Prop where
 k:df v.kind
 n:df v.n
 s:bq v.s
theorem LX{v:bH}(h:eP v≠0):lX v=fB 0:=by
 unfold lX
 rw[show(eP v != 0)=true by simpa using h]
 rfl
theorem TP{v:bH}(h:eP v≠0):th v=hA 0:=by
 unfold th
 rw[u9,show(eP v != 0)=true by simpa using h]
 rfl
theorem LY{s:ByteArray}(h:s.size≤60):bq s:=by unfold bq;omega
theorem LZ(v:bH):th v=lX v:=by
 by_cases h:eP v=0
 ·have hc:kf v=0:=by rw[←qa];exact h
  unfold th lX;rw[u9,show(eP v != 0)=false by simpa using h]
  rcases D2 hc with⟨aa,ae,aq⟩|⟨aa,ae,aq,aT⟩|⟨aa,ae,aq⟩
  ·rw[aa]
   exact n1 (n:=0) (mD (by decide) (by decide))
  ·have hn:hA v.n=fB v.n:=n1 (mD aq aT)
   rcases aa with aa|aa|aa<;>rw[aa]<;>simp only[cond_false]<;>rw[hn]<;>rfl
  ·have ah:kN v.s=hB v.s:=o5 (LY aq)
   rw[aa];simp only[cond_false];rw[ah];rfl
 ·rw[LX h,TP h]
  exact n1 (n:=0) (mD (by decide) (by decide))
theorem TQ{s:ByteArray}(h:s.size≤60):(hB s).size≤70:=by
 rw[Aw (LY h),ByteArray.size_append]
 have:=u5 (u:=gw s.size)
 omega
theorem bM:df 0:=mD (by decide) (by decide)
theorem TR(v:bH):(lX v).size≤80:=by
 have aS:=mv bM
 by_cases h:eP v=0
 ·have hc:kf v=0:=by rw[←qa];exact h
  unfold lX;rw[show(eP v != 0)=false by simpa using h]
  rcases D2 hc with⟨aa,ae,aq⟩|⟨aa,ae,aq,aT⟩|⟨aa,ae,aq⟩
  ·rw[aa]
   show(fB 0).size≤80;omega
  ·have hn:=mv (mD aq aT)
   rcases aa with aa|aa|aa
   ·rw[aa]
    show(ByteArray.append (fB 1) (fB v.n)).size≤80;rw[fH]
    have:=mv (n:=1) (mD (by decide) (by decide))
    omega
   ·rw[aa]
    show(ByteArray.append (fB 2) (fB v.n)).size≤80;rw[fH]
    have:=mv (n:=2) (mD (by decide) (by decide))
    omega
   ·rw[aa]
    show(ByteArray.append (fB 3) (fB v.n)).size≤80;rw[fH]
    have:=mv (n:=3) (mD (by decide) (by decide))
    omega
  ·have ah:=TQ aq
   rw[aa];show(ByteArray.append (fB 4) (hB v.s)).size≤80;rw[fH]
   have:=mv (n:=4) (mD (by decide) (by decide))
   omega
 ·rw[LX h]
  omega
def AK(k n:Int)(s:ByteArray)(b:Bool):Prop:=(b=true→(nZ n∧(fB k).size+(fB n).size≤9223372036854775807))∧(b=false→((k==4)=true→(rF s∧(fB k).size+(hB s).size≤9223372036854775807)))
theorem TS{v:bH}(av:qh v):El v:=by
 have key: ∀(k n:Int) (s:ByteArray),df k→df n→bq s→(nZ k)∧((k==1)=true→AK k n s (k==1))∧((k==1)=false→((k==2)=true→AK k n s (k==2))∧((k==2)=false→AK k n s (k==3))):=by
  intro k n s aj hn ah
  have bB:=mv aj
  have a2:=mv hn
  have a3:=u7 ah
  have ai: ∀b,AK k n s b:=fun b=>⟨fun _=>⟨u6 hn,by omega⟩,fun _ _=>⟨xA ah,by omega⟩⟩
  exact⟨u6 aj,fun _=>ai _,fun _=>⟨fun _=>ai _,fun _=>ai _⟩⟩
 exact⟨fun _=>key 0 0 ⟨#[]⟩ bM bM (by unfold bq;exact Nat.zero_le _),fun _=>key v.kind v.n v.s av.k av.n av.s⟩
theorem TT{v:bH}(av:qh v):Em v:=by
 have key: ∀(k n:Int) (s:ByteArray),df k→df n→bq s→((k==0)=true→lq 0)∧((k==0)=false→(((k==4)=true→(lq k∧rG s∧(hA k).size+(kN s).size≤9223372036854775807))∧((k==4)=false→(lq k∧lq n∧(hA k).size+(hA n).size≤9223372036854775807)))):=by
  intro k n s aj hn ah
  have bB:=mv aj
  have a2:=mv hn
  have a3:=u7 ah
  rw[←n1 aj]at bB;rw[←n1 hn]at a2;rw[←o5 ah]at a3;exact⟨fun _=>rE bM,fun _=>⟨fun _=>⟨rE aj,xB ah,by omega⟩,fun _=>⟨rE aj,rE hn,by omega⟩⟩⟩
 exact⟨fun _=>key 0 0 ⟨#[]⟩ bM bM (by unfold bq;exact Nat.zero_le _),fun _=>key v.kind v.n v.s av.k av.n av.s⟩
structure lu (q:dD):Prop where
 k:df q.kind
 n:df q.cW
 d:df q.key.dev
 c:bq q.key.bm
 a:bq q.key.attr
 m:bq q.name
 v:qh q.value
 t:bq q.text
theorem L0{q:dD}(h:lu q):lY q=eZ q:=by
 unfold lY eZ
 rw[n1 h.k,n1 h.n,n1 h.d,o5 h.c,o5 h.a,o5 h.m,LZ,o5 h.t]
theorem AL{q:dD}(h:lu q):(fB q.kind).size≤10∧(fB q.cW).size≤10∧(fB q.key.dev).size≤10∧(hB q.key.bm).size≤140737488351242∧(hB q.key.attr).size≤140737488351242∧(hB q.name).size≤140737488351242∧(lX q.value).size≤80∧(hB q.text).size≤140737488351242:=
 ⟨mv h.k,mv h.n,mv h.d,u7 h.c,u7 h.a,u7 h.m,TR _,u7 h.t⟩
theorem xJ{q:dD}(h:lu q):dy (eZ q):=by
 obtain⟨aa,ae,aq,aT,bD,cA,dx,e5⟩:=AL h
 have En:(lX ⟨q.value.kind,q.value.n,q.value.s⟩).size≤80:=dx
 unfold dy eZ
 simp only[fH]
 omega
theorem L1{q:dD}(h:lu q):AM q:=by
 obtain⟨aa,ae,aq,aT,bD,cA,dx,e5⟩:=AL h
 have En:(lX ⟨q.value.kind,q.value.n,q.value.s⟩).size≤80:=dx
 refine⟨u6 h.k,u6 h.n,?_,u6 h.d,?_,xA h.c,?_,xA h.a,?_,xA h.m,?_,TS h.v,?_,xA h.t,?_⟩<;>(try simp only[fH])<;>omega
theorem TU{q:dD}(h:lu q):Eo q:=by
 obtain⟨aa,ae,aq,aT,bD,cA,dx,e5⟩:=AL h
 have En:(lX ⟨q.value.kind,q.value.n,q.value.s⟩).size≤80:=dx
 refine⟨rE h.k,rE h.n,?_,rE h.d,?_,xB h.c,?_,xB h.a,?_,xB h.m,?_,TT h.v,?_,xB h.t,?_⟩<;>(try simp only[fH,n1 h.k,n1 h.n,n1 h.d,o5 h.c,o5 h.a,o5 h.m,LZ,o5 h.t])<;>omega
end Go.aL
namespace Go.aL
open Go Go.ei
theorem qi(x:ByteArray)(z:Int): ∃n:Nat,aC x z=(n:Int)∧n<256:=⟨_,rfl,UInt8.toNat_lt _⟩
noncomputable def qj(c:Int):List Int:=eQ.den .iH (lv c)
theorem TV: ∀n:Nat,n<256→(bif(((n:Int)==34)||((n:Int)==92))then[92,(n:Int)]else bif((decide ((n:Int)<32))||(decide ((n:Int)>126)))then[92,120,(ti (aZ .quo .u8 (n:Int) (16:Int))),(ti (n:Int))]else[(n:Int)])=qj (n:Int):=by decide+kernel
theorem L2: ∀n:Nat,n<256→(qj (n:Int)).length≤4:=by decide+kernel
theorem TW: ∀n:Nat,n<256→(0≤aZ .shr .u8 (n:Int) 4∧aZ .shr .u8 (n:Int) 4≤IntKind.wrap .u8 (aZ .shr .u8 (n:Int) 4+1)∧IntKind.wrap .u8 (aZ .shr .u8 (n:Int) 4+1)≤16)∧
 (0≤aZ .and .u8 (n:Int) 15∧aZ .and .u8 (n:Int) 15≤IntKind.wrap .u8 (aZ .and .u8 (n:Int) 15+1)∧IntKind.wrap .u8 (aZ .and .u8 (n:Int) 15+1)≤16):=by decide+kernel
theorem TX: ∀n:Nat,n<256→(0≤aZ .rem .u8 (n:Int) 16∧aZ .rem .u8 (n:Int) 16<16)∧(0≤aZ .rem .u8 (aZ .quo .u8 (n:Int) 16) 16∧aZ .rem .u8 (aZ .quo .u8 (n:Int) 16) 16<16):=by decide+kernel
theorem AN{b:ByteArray}{a c:Option Int}:(bw b a c).size≤b.size:=by
 cases a<;>cases c<;>simp only[bw,ByteArray.size_extract]<;>omega
theorem Ep{n:Nat}(h:n<256):tj (n:Int):=by
 obtain⟨aa,ae⟩:=TW n h
 have ay:ByteArray.size (⟨#[48,49,50,51,52,53,54,55,56,57,97,98,99,100,101,102]⟩:ByteArray)=16:=rfl
 have aV:ByteArray.size (⟨#[92,120]⟩:ByteArray)=2:=rfl
 have ct:ByteArray.size (⟨#[92]⟩:ByteArray)=1:=rfl
 refine⟨fun _=>?_,fun _ _=>⟨?_,?_,?_,?_⟩⟩
 ·rw[ct]
  show 1+(bytesOf [(n:Int)]).size≤_;rw[u2];show 1+1≤_;omega
 ·rw[ay]
  exact aa
 ·rw[aV]
  have:=AN (b:=⟨#[48,49,50,51,52,53,54,55,56,57,97,98,99,100,101,102]⟩) (a:=some (aZ .shr .u8 (n:Int) 4)) (c:=some (IntKind.wrap .u8 (aZ .shr .u8 (n:Int) 4+1)))
  rw[ay]at this;omega
 ·rw[ay]
  exact ae
 ·have bB:=AN (b:=⟨#[48,49,50,51,52,53,54,55,56,57,97,98,99,100,101,102]⟩) (a:=some (aZ .shr .u8 (n:Int) 4)) (c:=some (IntKind.wrap .u8 (aZ .shr .u8 (n:Int) 4+1)))
  have a2:=AN (b:=⟨#[48,49,50,51,52,53,54,55,56,57,97,98,99,100,101,102]⟩) (a:=some (aZ .and .u8 (n:Int) 15)) (c:=some (IntKind.wrap .u8 (aZ .and .u8 (n:Int) 15+1)))
  rw[ay]at bB a2;rw[fH,aV];omega
def n7(f:Nat→List Int):Nat→Nat→List Int
 |_,0=>[]
 |k,n+1=>f k++n7 f (k+1) n
theorem xK{R:Type}{f:Nat→List Int}{b:Nat→List Int→Step R (List Int)}: ∀(n k:Nat) (a:List Int),(∀i v,i<k+n→b i v= .bx (v++f i))→bV b k n a= .inr (a++n7 f k n)
 |0,_,a,_=>by rw[n7,List.append_nil];rfl
 |n+1,k,a,h=>by
  unfold bV;rw[h k a (by omega)]
  show bV b (k+1) n (a++f k)=_;rw[xK n (k+1) (a++f k) (fun i v hi=>h i v (by omega)),n7,List.append_assoc]
theorem TY:eQ.den .iH (⟨#[34]⟩:ByteArray)=[34]:=rfl
noncomputable def mE(x:ByteArray):ByteArray:=bytesOf (([34]++n7 (fun i=>qj (aC x (i:Int))) 0 x.size)++[34])
theorem Er(x:ByteArray):AO x=mE x:=by
 unfold AO mE
 dsimp only
 rw[Int.toNat_natCast,TY]
 show Sum.elim _ _ (bV (fun(i4:Nat) (aA:List Int)=>(Step.bx (aA++qj (aC x (i4:Int))):Step ByteArray (List Int))) 0 x.size [34])=_
 rw[xK (f:=fun i=>qj (aC x (i:Int))) x.size 0 [34] (fun i v _=>rfl)]
 rfl
theorem L3(x:ByteArray):vg x=mE x:=by
 unfold vg mE
 dsimp only
 rw[Int.toNat_natCast,xK (f:=fun i=>qj (aC x (i:Int))) x.size 0 [34] (fun i v _=>?_)]
 ·rfl
 ·obtain⟨n,hn,h⟩:=qi x (i:Int)
  have aJ:=TV n h
  rw[hn];rw[←aJ]
  cases (((n:Int)==34)||((n:Int)==92))with
  |true=>rfl
  |false=>
   simp only[cond_false]
   cases ((decide ((n:Int)<32))||(decide ((n:Int)>126)))<;>rfl
theorem TZ{x:ByteArray}(h:x.size≤1000000):Es x:=by
 have T0:(eQ.den .iH (⟨#[34]⟩:ByteArray)).length=1:=rfl
 refine⟨⟨?_,?_⟩,⟨by omega,by omega⟩,fun i d=>d.length≤1+4*i,?_,fun i d hi hd=>?_,fun c hc=>?_⟩
 ·show 0+1≤maxLen;unfold maxLen;omega
 ·show(0+1)*1≤_;omega
 ·show(eQ.den .iH (⟨#[34]⟩:ByteArray)).length≤1+4*0;rw[T0];omega
 ·obtain⟨n,hn,ad⟩:=qi x (i:Int)
  have hi:i<x.size:=by rwa[Int.toNat_natCast]at hi
  have hd:d.length≤1+4*i:=hd
  have ao:(eQ.den .iH (lv (aC x (i:Int)))).length≤4:=by rw[hn];exact L2 n ad
  refine⟨by rw[hn];exact Ep ad,⟨?_,?_⟩,?_⟩
  ·show d.length+(eQ.den .iH (lv (aC x (i:Int)))).length≤maxLen;unfold maxLen;omega
  ·show(d.length+(eQ.den .iH (lv (aC x (i:Int)))).length)*1≤_;omega
  ·show(d++eQ.den .iH (lv (aC x (i:Int)))).length≤1+4*(i+1)
   rw[List.length_append];omega
 ·have hc:c.length≤1+4*Int.toNat (x.size:Int):=hc
  rw[Int.toNat_natCast]at hc;refine⟨?_,?_⟩
  ·show c.length+1≤maxLen;unfold maxLen;omega
  ·show(c.length+1)*1≤_;omega
theorem L4{z:Int}(h:0≤aZ .rem .u8 z 16∧aZ .rem .u8 z 16<16):AP z:=h
theorem L5{x:ByteArray}(h:x.size≤1000000):AQ x:=by
 refine⟨⟨by omega,by omega⟩,fun i d=>d.length≤1+4*i,by show 1≤1+4*0;omega,fun i d hi hd=>?_,fun c hc=>?_⟩
 ·obtain⟨n,hn,ad⟩:=qi x (i:Int)
  have hi:i<x.size:=by rwa[Int.toNat_natCast]at hi
  have hd:d.length≤1+4*i:=hd
  obtain⟨hN,lx⟩:=TX n ad
  have key: ∀l:List Int,l.length≤4→(List.length d+List.length l≤maxLen∧(List.length d+List.length l)*1≤140737488355328)∧(List.append d l).length≤1+4*(i+1):=fun l ao=>by
   refine⟨⟨by unfold maxLen;omega,by omega⟩,?_⟩
   show(d++l).length≤_;rw[List.length_append];omega
  intro aF;dsimp only;refine⟨fun _=>key _ (by simp),fun _=>⟨fun _=>⟨by rw[hn];exact L4 lx,by rw[hn];exact L4 hN,?_⟩,fun _=>key _ (by simp)⟩⟩
  exact key _ (by simp)
 ·have hc:c.length≤1+4*Int.toNat (x.size:Int):=hc
  rw[Int.toNat_natCast]at hc;refine⟨?_,?_⟩
  ·show c.length+1≤maxLen;unfold maxLen;omega
  ·show(c.length+1)*1≤_;omega
theorem Et(v:bH):pd v=fO v:=by
 by_cases h:eP v=0
 ·have hc:kf v=0:=by rw[←qa];exact h
  unfold pd fO;rw[u9,show(eP v != 0)=false by simpa using h]
  rcases D2 hc with⟨aa,ae,aq⟩|⟨aa,ae,aq,aT⟩|⟨aa,ae,aq⟩
  ·rw[aa];rfl
  ·rcases aa with aa|aa|aa<;>rw[aa]<;>rfl
  ·rw[aa,Er,L3];rfl
 ·unfold pd fO
  rw[u9,show(eP v != 0)=true by simpa using h]
  rfl
theorem pe(n:Int):(e6 n).size≤21:=Eu n
theorem L6{v:bH}(hn:df v.n):AR v:=by
 have:=pe v.n
 have Ev:ByteArray.size (⟨#[35]⟩:ByteArray)=1:=rfl
 refine fun hc _=>⟨fun _=>hn.p,fun _=>⟨fun _=>⟨hn.p,?_⟩,fun _ aT=>?_⟩⟩
 ·rw[Ev];omega
 ·have hc:kf v=0:=by rw[←qa];exact Ap hc
  have:=xx hc
  exact TZ (by omega)
theorem L7{v:bH}(hn:df v.n):AS v:=by
 have:=Eu v.n
 have Ev:ByteArray.size (⟨#[35]⟩:ByteArray)=1:=rfl
 refine fun hc _ _=>⟨fun _=>hn.p,fun _=>⟨fun _=>⟨hn.p,?_⟩,fun _=>?_⟩⟩
 ·rw[Ev]
  show 1+(fI v.n).size≤_;omega
 ·rw[u9]at hc
  have hc:kf v=0:=by rw[←qa];exact Ap hc
  have:=xx hc
  exact L5 (by omega)
theorem Ew{f:Nat→List Int}{c:Nat}: ∀(n k:Nat),(∀i,(f i).length≤c)→(n7 f k n).length≤c*n
 |0,_,_=>by simp[n7]
 |n+1,k,h=>by
  have aa:=h k
  have ae:=Ew n (k+1) h
  rw[n7,List.length_append,Nat.mul_succ];omega
theorem T1(x:ByteArray):(mE x).size≤4*x.size+2:=by
 unfold mE
 rw[u2,List.length_append,List.length_append]
 have:=Ew (f:=fun i=>qj (aC x (i:Int))) (c:=4) x.size 0 (fun i=>by
  obtain⟨n,hn,h⟩:=qi x (i:Int);show(qj (aC x (i:Int))).length≤4;rw[hn]
  exact L2 n h)
 simp
 omega
theorem L8(v:bH):(fO v).size≤250:=by
 by_cases h:eP v=0
 ·have hc:kf v=0:=by rw[←qa];exact h
  have hd:=pe v.n
  have aJ:=T1 v.s
  have ah:=xx hc
  unfold fO;simp only[cond_eq_ite]
  repeat' split
  all_goals first
   |decide
   |omega
   |(rw[fH];show 1+(e6 v.n).size≤250;omega)
   |(rw[Er];omega)
 ·unfold fO
  rw[show(eP v != 0)=true by simpa using h]
  exact Nat.zero_le _
end Go.aL
