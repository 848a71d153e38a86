/- Numbers, texts, values, readers: the spec functions. Conditions: none. -/
import Derived.Test.YtddeffoppnlafaaGreatKTEk
import Derived.Laws.RangeString
import Derived.Laws.RangeAny
import Derived.Laws.BitsAllLaws
import Derived.Laws.DeepNot64
import Derived.Test.YtddeffoppnlafaaGreatKPm
namespace Go.aK
open Go Go.aK Go.fb
abbrev bK:=bm
def AA(n:Int)(o2:Int × (List Int)):Step Unit (Int × (List Int)):=
 match o2 with
 |(n9,X1)=>(bif decide (n9≥128)then .bM (n9.fdiv 128,(X1++[k6 .u8 (IntKind.u8.wrap n9) 128]))else .c9 (n9,X1))
def Qu(n:Int)(o2:Int × (List Int)):Int × (List Int):=TI (AA n) 10 o2
def Iw(n:Int):ByteArray:=
 bytesOf ((Qu n (iO .u64 (IntKind.u64.wrap (IntKind.u64.wrap n*2)) (IntKind.u64.wrap (n.fdiv 9223372036854775808)),[])).2++[IntKind.u8.wrap ((Qu n (iO .u64 (IntKind.u64.wrap (IntKind.u64.wrap n*2)) (IntKind.u64.wrap (n.fdiv 9223372036854775808)),[])).1)])
def sz(s:ByteArray)(mL:Nat)(o2:Int):Step (Int × Int × Int) (Int):=
 match o2 with
 |(n9)=>(match(s.data.toList)[mL]? with|some o3=>(bif((decide ((mL:Int)>0)&&((o3.toNat:Int)==0))||(((mL:Int)==9)&&decide ((o3.toNat:Int)>1)))then .ret (0,0,4)else(bif decide ((o3.toNat:Int)<128)then .ret (k6 .u64 n9 (IntKind.u64.wrap ((IntKind.u64.wrap (l0 .u8 (o3.toNat:Int) 127))*2^(min (IntKind.i64.wrap (7*(mL:Int))).toNat 64))),((mL+1:Nat):Int),0)else .bM (k6 .u64 n9 (IntKind.u64.wrap ((IntKind.u64.wrap (l0 .u8 (o3.toNat:Int) 127))*2^(min (IntKind.i64.wrap (7*(mL:Int))).toNat 64))))))|none=>.bM o2)
def AB(s:ByteArray)(o2:Int):(Int × Int × Int)⊕(Int):=bJ (sz s) 0 s.size o2
def jZ(s:ByteArray):Int × Int × Int:=
 (match(AB s (0))with| .inl Qv=>Qv| .inr (n9)=>(0,0,5))
def cL(r:Rd):(Int):=
 (bif !r.made then 15 else r.err)
def bx(r:Rd):(Int × Rd):=
 (bif((cL r) != 0)then(0,r)else(bif((((jZ r.rest).2).2) != 0)then(0,(⟨r.rest,(((jZ r.rest).2).2),r.made⟩:Rd))else(iO .i64 (IntKind.i64.wrap (((jZ r.rest).1).fdiv 2)) (IntKind.i64.wrap (0-IntKind.i64.wrap (l0 .u64 ((jZ r.rest).1) 1))),(⟨r.rest.extract ((((jZ r.rest).2).1).toNat) r.rest.size,r.err,r.made⟩:Rd))))
def cH(r:Rd)(n:Int):(Int × Rd):=
 (bif((cL ((bx r).2)) != 0)then(0,((bx r).2))else(bif decide ((bx r).1<0)then(0,(⟨((bx r).2).rest,4,((bx r).2).made⟩:Rd))else(bif decide ((bx r).1>(if 0>n then 0 else n))then(0,(⟨((bx r).2).rest,3,((bx r).2).made⟩:Rd))else((bx r).1,((bx r).2)))))
def iZ(r:Rd)(n:Int):(ByteArray × Rd):=
 (bif((cL ((cH r n).2)) != 0)then(⟨#[]⟩,((cH r n).2))else(bif decide ((cH r n).1>(((((cH r n).2).rest).size:Nat):Int))then(⟨#[]⟩,(⟨((cH r n).2).rest,5,((cH r n).2).made⟩:Rd))else((((cH r n).2).rest).extract 0 (((cH r n).1).toNat),(⟨(((cH r n).2).rest).extract (((cH r n).1).toNat) (((cH r n).2).rest).size,((cH r n).2).err,((cH r n).2).made⟩:Rd))))
def pX(r:Rd)(e:Int):(Rd):=
 (bif((cL r)==0)then(⟨r.rest,e,r.made⟩:Rd)else r)
def n3(r:Rd):(Int):=
 (bif((cL r) != 0)then 0 else(r.rest.size:Int))
def sy(r:Rd):(Int):=
 (bif decide ((n3 r)>0)then 23 else(cL r))
def DZ(n:Int):Bool:=
 (decide (n≥ -1099511627776)&&decide (n≤1099511627776))
def kQ(v:dz):Int:=
 (bif(((v.kind==0)||(v.kind==4))||((v.kind==1)||((v.kind==2)||(v.kind==3))))then(bif !(bif((v.kind==0)||(v.kind==4))then(v.n==0)else(bif(v.kind==1)then((v.n==0)||(v.n==1))else(bif(v.kind==2)then DZ v.n else(decide (v.n≥0)&&decide (v.n≤63)))))then 2 else(bif decide ((v.s.size:Int)>60)then 3 else(bif(!gB v.s (⟨#[]⟩)&&(v.kind != 4))then 4 else 0)))else 7)
def vM(v:dz):Int:=
 (bif(((v.kind==0)||(v.kind==4))||((v.kind==1)||((v.kind==2)||(v.kind==3))))then(bif(decide (v.n<(bif(((v.kind==0)||(v.kind==4))||((v.kind==1)|| !(v.kind==2)))then 0 else -1099511627776))||decide (v.n>(bif((v.kind==0)||(v.kind==4))then 0 else(bif(v.kind==1)then 1 else(bif(v.kind==2)then 1099511627776 else 63)))))then 2 else(bif decide ((v.s.size:Int)>60)then 3 else(bif(!gB v.s (⟨#[]⟩)&&(v.kind != 4))then 4 else 0)))else 7)
def D0(r:Rd):dz:=(bif(((bx r).1==1)||(((bx r).1==2)||((bx r).1==3)))then(⟨(bx r).1,(bx ((bx r).2)).1,⟨#[]⟩⟩:dz)else(bif((bx r).1==4)then(⟨(bx r).1,0,(iZ ((bx r).2) 60).1⟩:dz)else(⟨(bx r).1,0,⟨#[]⟩⟩:dz)))
def xI(r:Rd):Rd:=(bif(((bx r).1==1)||(((bx r).1==2)||((bx r).1==3)))then((bx ((bx r).2)).2)else(bif((bx r).1==4)then((iZ ((bx r).2) 60).2)else((bx r).2)))
def tY(r:Rd):Rd:=(bif(kQ (D0 r) != 0)then(pX (xI r) 4)else(xI r))
def mW(r:Rd):(dz × Rd):=
 (bif((cL (tY r)) != 0)then((⟨0,0,⟨#[]⟩⟩:dz),(tY r))else((D0 r),(tY r)))
def dI(r:bK):(Int):=
 (bif !r.made then 15 else r.bad)
def pY(r:bK)(mL:Nat)(o2:Int):Step (Int × bK) (Int):=
 match o2 with
 |(n9)=>(bif decide (IntKind.i64.wrap (r.at_+(mL:Int))≥(r.s.size:Int))then .ret (0,(⟨r.s,r.at_,5,r.made⟩:bK))else(match(r.s.data.toList)[(IntKind.i64.wrap (r.at_+(mL:Int))).toNat]? with|some o3=>(bif((decide ((mL:Int)>0)&&((o3.toNat:Int)==0))||(((mL:Int)==9)&&decide ((o3.toNat:Int)>1)))then .ret (0,(⟨r.s,r.at_,4,r.made⟩:bK))else(bif decide ((o3.toNat:Int)<128)then .ret ((bif((k6 .u64 n9 (IntKind.u64.wrap ((IntKind.u64.wrap ((o3.toNat:Int).tmod 128))*2^(min (IntKind.i64.wrap (7*(mL:Int))).toNat 64)))).tmod 2==1)then IntKind.i64.wrap (-1-IntKind.i64.wrap ((k6 .u64 n9 (IntKind.u64.wrap ((IntKind.u64.wrap ((o3.toNat:Int).tmod 128))*2^(min (IntKind.i64.wrap (7*(mL:Int))).toNat 64)))).fdiv 2))else IntKind.i64.wrap ((k6 .u64 n9 (IntKind.u64.wrap ((IntKind.u64.wrap ((o3.toNat:Int).tmod 128))*2^(min (IntKind.i64.wrap (7*(mL:Int))).toNat 64)))).fdiv 2)),(⟨r.s,IntKind.i64.wrap (IntKind.i64.wrap (r.at_+(mL:Int))+1),r.bad,r.made⟩:bK))else .bM (k6 .u64 n9 (IntKind.u64.wrap ((IntKind.u64.wrap ((o3.toNat:Int).tmod 128))*2^(min (IntKind.i64.wrap (7*(mL:Int))).toNat 64))))))|none=>.bM o2))
def Qw(r:bK)(o2:Int):(Int × bK)⊕(Int):=bJ (pY r) 0 10 o2
def bY(r:bK):(Int × bK):=
 (bif((dI r) != 0)then(0,r)else(match(Qw r (0))with| .inl Qv=>Qv| .inr (n9)=>(0,r)))
def da(r:bK)(n:Int):(Int × bK):=
 (bif((dI ((bY r).2)) != 0)then(0,((bY r).2))else(bif decide ((bY r).1<0)then(0,(⟨((bY r).2).s,((bY r).2).at_,4,((bY r).2).made⟩:bK))else(bif decide ((bY r).1>(bif decide (n<0)then 0 else n))then(0,(⟨((bY r).2).s,((bY r).2).at_,3,((bY r).2).made⟩:bK))else((bY r).1,((bY r).2)))))
def ih(r:bK)(n:Int):(ByteArray × bK):=
 (bif((dI ((da r n).2)) != 0)then(⟨#[]⟩,((da r n).2))else(bif decide ((da r n).1>IntKind.i64.wrap ((((((da r n).2).s).size:Nat):Int)-((da r n).2).at_))then(⟨#[]⟩,(⟨((da r n).2).s,((da r n).2).at_,5,((da r n).2).made⟩:bK))else((((da r n).2).s).extract ((((da r n).2).at_).toNat) ((((da r n).2).at_+(da r n).1).toNat),(⟨((da r n).2).s,IntKind.i64.wrap (((da r n).2).at_+(da r n).1),((da r n).2).bad,((da r n).2).made⟩:bK))))
def n2(r:bK):dz:=(bif((bY r).1==4)then(⟨(bY r).1,0,(ih ((bY r).2) 60).1⟩:dz)else(⟨(bY r).1,0,⟨#[]⟩⟩:dz))
def sm(r:bK):bK:=(bif((bY r).1==4)then((ih ((bY r).2) 60).2)else((bY r).2))
def o1(r:bK):bK:=(bif(decide ((n2 r).kind≥1)&&decide ((n2 r).kind≤3))then((bY (sm r)).2)else(sm r))
def vF(r:bK):dz:=(bif(decide ((n2 r).kind≥1)&&decide ((n2 r).kind≤3))then(⟨(n2 r).kind,(bY (sm r)).1,(n2 r).s⟩:dz)else(n2 r))
def xJ(r:bK)(e:Int):(bK):=
 (bif((dI r)==0)then(⟨r.s,r.at_,e,r.made⟩:bK)else r)
def sl(r:bK):bK:=(bif(((dI (o1 r))==0)&&(vM (vF r) != 0))then(xJ (o1 r) 4)else(o1 r))
def rf(r:bK):(dz × bK):=
 (bif((dI (sl r)) != 0)then((⟨0,0,⟨#[]⟩⟩:dz),(sl r))else((vF r),(sl r)))
def sv(r:bK):(Int):=
 (bif((dI r) != 0)then(dI r)else(bif decide (r.at_<(r.s.size:Int))then 23 else 0))
def vL(s:ByteArray):Rd:=(⟨s,0,true⟩:Rd)
def Ay(s:ByteArray):bK:=(⟨s,0,0,true⟩:bK)
def cT(r:bK):Prop:=0≤r.at_∧r.at_≤(r.s.size:Int)∧r.s.size≤4611686018427387904
abbrev AD(s:ByteArray):Rd:=⟨s,0,true⟩
open Classical in
theorem X2{a:Int}(h:(a != 0)=false):a=0:=by simpa using h
theorem XS{a b:ByteArray}:gB a b=false↔a≠b:=by rw[FW];simp
theorem ziX{α:Type}{p q:Prop}[Decidable p][Decidable q]{a b:α}(h:p↔q):(if p then a else b)=if q then a else b:=by
 by_cases ar:p
 ·rw[if_pos ar,if_pos (h.1 ar)]
 ·rw[if_neg ar,if_neg fun aG=>ar (h.2 aG)]
theorem X3{α:Type}{p q:Prop}[Decidable p][Decidable q]{a b:α}(h:p↔¬q):(if p then a else b)=if q then b else a:=by
 by_cases aG:q
 ·rw[if_pos aG,if_neg fun ar=>h.1 ar aG]
 ·rw[if_neg aG,if_pos (h.2 aG)]
theorem Xg(v:dz):kQ v=vM v:=by
 unfold kQ vM DZ
 simp only[cond_eq_ite]
 by_cases aS:v.kind=0
 ·simp[aS]
  apply X3;omega
 by_cases aM:v.kind=4
 ·simp[aM]
  apply X3;omega
 by_cases ab:v.kind=1
 ·simp[ab]
  apply ziX;omega
 by_cases ae:v.kind=2
 ·simp[ae]
 by_cases aw:v.kind=3
 ·simp[aw]
 ·simp[aS,ab,ae,aw,aM]
end Go.aK
namespace Go.aK
open Go Go.aK Go.fb
def hr:Nat→Nat→List Nat
 |0,u=>[u]
 |f+1,u=>if u<128 then[u]else(u%128+128)::hr f (u/ 128)
def gX(n:Int):Nat:=if 0≤n then(2*n).toNat else(-2*n-1).toNat
def pZ(u:Nat):Int:=if u%2=0 then((u/ 2:Nat):Int)else -1-((u/ 2:Nat):Int)
theorem ziY(n:Int):pZ (gX n)=n:=by
 unfold gX pZ
 split<;>split<;>omega
theorem ziZ(u:Nat):gX (pZ u)=u:=by
 unfold gX pZ
 split<;>split<;>omega
def eO(n:Int):Prop:= -9223372036854775808≤n∧n<9223372036854775808
theorem p0{n:Int}(h:eO n):gX n<18446744073709551616:=by
 unfold eO at h
 unfold gX
 split<;>omega
theorem X4{u:Nat}(h:u<18446744073709551616):eO (pZ u):=by
 unfold pZ eO
 split<;>omega
theorem vN(n:Int):IntKind.u64.wrap n=n%18446744073709551616:=by simp[IntKind.wrap,IntKind.bits,IntKind.signed]
theorem Qx(a b:Nat)(a6:a<18446744073709551616)(ag:b<18446744073709551616):iO .u64 (a:Int) (b:Int)=((a ^^^ b:Nat):Int):=u64_xor_nat a b a6 ag
theorem zi0(a b:Nat)(a6:a<18446744073709551616)(ag:b<18446744073709551616):k6 .u64 (a:Int) (b:Int)=((a ||| b:Nat):Int):=u64_or_nat a b a6 ag
theorem zi1(a b:Nat)(a6:a<18446744073709551616)(ag:b<18446744073709551616):l0 .u64 (a:Int) (b:Int)=((a &&& b:Nat):Int):=u64_and_nat a b a6 ag
theorem zi2(a b:Nat)(a6:a<256)(ag:b<256):k6 .u8 (a:Int) (b:Int)=((a ||| b:Nat):Int):=u8_or_nat a b a6 ag
theorem X5(a b:Nat)(a6:a<256)(ag:b<256):l0 .u8 (a:Int) (b:Int)=((a &&& b:Nat):Int):=u8_and_nat a b a6 ag
theorem X6(a:Nat)(a6:a<18446744073709551616):a ^^^ 18446744073709551615=18446744073709551615-a:=by
 have h:(BitVec.ofNat 64 a ^^^ BitVec.allOnes 64)= ~~~(BitVec.ofNat 64 a):=by rw[BitVec.xor_allOnes]
 have ae:=congrArg BitVec.toNat h
 rw[BitVec.toNat_not,BitVec.toNat_xor,BitVec.toNat_ofNat,BitVec.toNat_allOnes,Nat.mod_eq_of_lt a6]at ae
 exact ae
theorem X7{n:Int}(h:eO n):iO .u64 (IntKind.u64.wrap (IntKind.u64.wrap n*2)) (IntKind.u64.wrap (n.fdiv 9223372036854775808))=((gX n:Nat):Int):=by
 obtain⟨ab,ae⟩:=h
 rw[vN,vN,vN,Int.fdiv_eq_ediv_of_nonneg _ (by decide)]
 by_cases hn:0≤n
 ·have aD:n%18446744073709551616*2%18446744073709551616=((gX n:Nat):Int):=by unfold gX;rw[if_pos hn];omega
  have bg:n/ 9223372036854775808%18446744073709551616=((0:Nat):Int):=by omega
  rw[aD,bg,Qx _ _ (p0 ⟨ab,ae⟩) (by decide),Nat.xor_zero]
 ·have aD:n%18446744073709551616*2%18446744073709551616=((18446744073709551615-gX n:Nat):Int):=by unfold gX;rw[if_neg hn];omega
  have bg:n/ 9223372036854775808%18446744073709551616=((18446744073709551615:Nat):Int):=by omega
  have aT:=p0 ⟨ab,ae⟩
  rw[aD,bg,Qx _ _ (by omega) (by decide),X6 _ (by omega)]
  omega
theorem X8{n:Int}(h:eO n):(bif decide (n<0)then iO .u64 18446744073709551615 (IntKind.u64.wrap (IntKind.u64.wrap n*2))else IntKind.u64.wrap (IntKind.u64.wrap n*2))=((gX n:Nat):Int):=by
 obtain⟨ab,ae⟩:=h
 rw[vN,vN]
 by_cases hn:0≤n
 ·have h4:decide (n<0)=false:=decide_eq_false (by omega)
  rw[h4];show n%18446744073709551616*2%18446744073709551616=((gX n:Nat):Int);unfold gX;rw[if_pos hn];omega
 ·have h4:decide (n<0)=true:=decide_eq_true (by omega)
  have aD:n%18446744073709551616*2%18446744073709551616=((18446744073709551615-gX n:Nat):Int):=by unfold gX;rw[if_neg hn];omega
  have aT:=p0 ⟨ab,ae⟩
  rw[h4,cond_true,aD,show(18446744073709551615:Int)=((18446744073709551615:Nat):Int)from rfl,Qx _ _ (by decide) (by omega),Nat.xor_comm,X6 _ (by omega)]
  omega
theorem zi3: ∀a,a<256→a ||| 128=a%128+128:=by decide+kernel
theorem X9(u:Nat):k6 .u8 (IntKind.u8.wrap (u:Int)) 128=((u%128+128:Nat):Int):=by
 have e:IntKind.u8.wrap (u:Int)=((u%256:Nat):Int):=by rw[IntKind.wrap_u8'];omega
 rw[e,show(128:Int)=((128:Nat):Int)from rfl,zi2 _ _ (by omega) (by decide),zi3 _ (by omega)]
 omega
theorem zi4(u:Nat):IntKind.u8.wrap (IntKind.u8.wrap ((u:Int).tmod 128)+128)=((u%128+128:Nat):Int):=by
 rw[Int.tmod_eq_emod_of_nonneg (by omega),IntKind.wrap_u8',IntKind.wrap_u8']
 omega
theorem Ya{R A:Type}{b:A→Step R A}{f:Nat}{x y:A}(h:b x= .c9 y):dA b (f+1) x= .inr y:=by
 unfold dA
 rw[h]
theorem Yb{R A:Type}{b:A→Step R A}{f:Nat}{x y:A}(h:b x= .bM y):dA b (f+1) x=dA b f y:=by
 conv=>lhs;unfold dA
 rw[h]
theorem Yc(n:Int): ∀(f u:Nat) (acc:List Int),u<128*128^f→∃(x:Nat) (l:List Int),dA (AA n) (f+1) ((u:Int),acc)= .inr ((x:Int),acc++l)∧(hr f u).map (fun b:Nat=>(b:Int))=l++[(x:Int)]∧x<128
 |f,u,acc,h=>by
  by_cases hu:u<128
  ·have ag:AA n ((u:Int),acc)= .c9 ((u:Int),acc):=by
    unfold AA;dsimp only;rw[show decide ((u:Int)≥128)=false from decide_eq_false (by omega)]
    rfl
   refine⟨u,[],by rw[Ya ag,List.append_nil],?_,hu⟩
   cases f with
   |zero=>rfl
   |succ f=>unfold hr;rw[if_pos hu];rfl
  ·have ag:AA n ((u:Int),acc)= .bM (((u/ 128:Nat):Int),acc++[((u%128+128:Nat):Int)]):=by
    unfold AA;dsimp only;rw[show decide ((u:Int)≥128)=true from decide_eq_true (by omega),cond_true]
    rw[X9,Int.fdiv_eq_ediv_of_nonneg _ (by decide),show(u:Int)/ 128=((u/ 128:Nat):Int)by omega]
   cases f with
   |zero=>exact absurd h (by simpa using hu)
   |succ f=>
    have ae:u/ 128<128*128^f:=by
     rw[Nat.pow_succ]at h;omega
    obtain⟨x,l,aD,bg,cM⟩:=Yc n f (u/ 128) (acc++[((u%128+128:Nat):Int)]) ae;refine⟨x,((u%128+128:Nat):Int)::l,?_,?_,cM⟩
    ·rw[Yb ag,aD,List.append_assoc,List.singleton_append]
    ·unfold hr
     rw[if_neg hu,List.map_cons,bg,List.cons_append]
def ja(u:Nat):ByteArray:=bytesOf ((hr 9 u).map fun b:Nat=>(b:Int))
theorem Qy{n:Int}(h:eO n):Iw n=ja (gX n):=by
 obtain⟨x,l,aD,bg,cM⟩:=Yc n 9 (gX n) [] (Nat.lt_of_lt_of_le (p0 h) (by decide))
 unfold Iw Qu ja
 rw[X7 h]
 unfold TI
 rw[aD,bg]
 show bytesOf (([]++l)++[IntKind.u8.wrap (x:Int)])=_
 rw[List.nil_append,IntKind.wrap_u8',show(x:Int)%256=(x:Int)by omega]
theorem Yd: ∀(l:List Int) (s:ByteArray),(l.foldl (fun r n=>r.push (UInt8.ofNat n.toNat)) s).data.toList=s.data.toList++l.map fun n=>UInt8.ofNat n.toNat
 |[],s=>by simp
 |n::l,s=>by
  rw[List.foldl_cons,Yd l,ByteArray.data_push,Array.toList_push,List.map_cons,List.append_assoc,List.singleton_append]
theorem vB(l:List Int):(bytesOf l).data.toList=l.map fun n=>UInt8.ofNat n.toNat:=by
 unfold bytesOf
 rw[Yd]
 rfl
theorem Xk(l:List Int):(bytesOf l).size=l.length:=by
 have h:=congrArg List.length (vB l)
 rw[List.length_map,Array.length_toList]at h
 exact h
theorem pT{a b:ByteArray}(h:a.data.toList=b.data.toList):a=b:=ByteArray.ext (Array.toList_inj.1 h)
def ri(l:List Nat):List UInt8:=l.map UInt8.ofNat
theorem Ye(u:Nat):(ja u).data.toList=ri (hr 9 u):=by
 unfold ja ri
 rw[vB,List.map_map]
 rfl
theorem Yf(f u:Nat):0<(hr f u).length:=by
 cases f with
 |zero=>exact Nat.one_pos
 |succ f=>
  unfold hr
  split
  ·exact Nat.one_pos
  ·simp
theorem zi5(f u:Nat):(hr f u).length≤f+1:=by
 induction f generalizing u with
 |zero=>exact Nat.le_refl _
 |succ f aY=>
  unfold hr
  split
  ·simp
  ·have:=aY (u/ 128)
   simp only[List.length_cons];omega
theorem D1(u:Nat):(ja u).size=(hr 9 u).length:=by
 unfold ja
 rw[Xk,List.length_map]
theorem Qz(k:Nat):128^k=2^(7*k):=by rw[Nat.pow_mul]
theorem Yg{k acc c:Nat}(an:k≤9)(hc:c<256)(a6:acc<128^k)(hd:c%128*128^k<18446744073709551616):
 k6 .u64 (acc:Int) (IntKind.u64.wrap ((IntKind.u64.wrap (l0 .u8 (c:Int) 127))*2^(min (IntKind.i64.wrap (7*(k:Int))).toNat 64)))=((acc+c%128*128^k:Nat):Int):=by
 have aD:l0 .u8 (c:Int) 127=((c%128:Nat):Int):=by
  rw[show(127:Int)=((127:Nat):Int)from rfl,X5 _ _ hc (by decide),nat_mask7]
 have bg:min (IntKind.i64.wrap (7*(k:Int))).toNat 64=7*k:=by
  rw[iy _ (by omega) (by omega)]
  omega
 have cM:IntKind.u64.wrap ((c%128:Nat):Int)=((c%128:Nat):Int):=by rw[vN];omega
 have dU:(((c%128:Nat):Int)*2^(7*k))=((c%128*128^k:Nat):Int):=by
  rw[Qz];push_cast;rfl
 have ar:128^k≤128^9:=Nat.pow_le_pow_right (by decide) an
 rw[aD,bg,cM,dU,vN]
 have qx:((c%128*128^k:Nat):Int)%18446744073709551616=((c%128*128^k:Nat):Int):=by omega
 rw[qx,zi0 _ _ (by(have:(128:Nat)^9=9223372036854775808:=(by decide));omega) hd]
 rw[Nat.or_comm,nat_join (7*k) _ _ (by rw[Qz];exact Nat.mul_mod_left _ _) (by rw[←Qz];exact a6),Nat.add_comm]
theorem QA(e:UInt8):e.toNat<256:=e.toNat_lt
theorem Ix{s:ByteArray}{k:Nat}{e:UInt8}{acc:Nat}(he:s.data.toList[k]? =some e)(an:k≤9)(a6:acc<128^k):sz s k (acc:Int)=
 if(0<k∧e.toNat=0)∨(k=9∧1<e.toNat)then .ret (0,0,4)else if e.toNat<128 then .ret (((acc+e.toNat%128*128^k:Nat):Int),((k+1:Nat):Int),0)else .bM ((acc+e.toNat%128*128^k:Nat):Int):=by
 have hu:=QA e
 unfold sz
 dsimp only
 rw[he]
 dsimp only
 rw[cond_eq_ite]
 by_cases ab:(0<k∧e.toNat=0)∨(k=9∧1<e.toNat)
 ·rw[if_pos ab,if_pos]
  simp only[Bool.or_eq_true,Bool.and_eq_true,decide_eq_true_eq,beq_iff_eq];omega
 ·have hd:e.toNat%128*128^k<18446744073709551616:=by
   rcases Nat.lt_or_ge k 9 with hG|hG
   ·have ar:128^k≤128^8:=Nat.pow_le_pow_right (by decide) (by omega)
    have:e.toNat%128*128^k≤127*128^8:=Nat.mul_le_mul (by omega) ar
    exact Nat.lt_of_le_of_lt this (by decide)
   ·have xK:k=9:=by omega
    subst xK
    have:e.toNat%128*128^9≤1*128^9:=Nat.mul_le_mul (by omega) (Nat.le_refl _)
    exact Nat.lt_of_le_of_lt this (by decide)
  rw[if_neg ab,if_neg (by
   simp only[Bool.or_eq_true,Bool.and_eq_true,decide_eq_true_eq,beq_iff_eq]
   omega),Yg an hu a6 hd,cond_eq_ite]
  by_cases ae:e.toNat<128
  ·rw[if_pos ae,if_pos (by rw[decide_eq_true_eq];omega)]
  ·rw[if_neg ae,if_neg (by rw[decide_eq_true_eq];omega)]
theorem Yh{s:ByteArray}: ∀(f k acc u:Nat) (t:List UInt8) (m:Nat),k+f=9→s.data.toList.drop k=ri (hr f u)++t→acc<128^k→u<128*128^f→acc+u*128^k<18446744073709551616→(0<k→0<u)→(hr f u).length≤m→
 bJ (sz s) k m (acc:Int)= .inl (((acc+u*128^k:Nat):Int),((k+(hr f u).length:Nat):Int),0)
 |f,k,acc,u,t,m,kb,av,a6,hu,tZ,aS,hm=>by
  cases m with
  |zero=>have:=Yf f u;omega
  |succ m=>
   have ar:0<128^k:=Nat.pow_pos (by decide)
   unfold bJ
   by_cases D2:u<128
   ·have az:hr f u=[u]:=by
     cases f with
     |zero=>rfl
     |succ f=>unfold hr;rw[if_pos D2]
    rw[az]at av⊢
    have he:s.data.toList[k]? =some (UInt8.ofNat u):=by
     have:=congrArg (fun l=>l[0]?) av
     simpa[ri]using this
    have ag:=Ix he (by omega) a6
    have hn:(UInt8.ofNat u).toNat=u:=by simp[UInt8.toNat_ofNat'];omega
    rw[hn]at ag
    have hG:k=9→u≤1:=by
     intro xK;subst xK
     have QB:(128:Nat)^9=9223372036854775808:=by decide
     rw[QB]at tZ;omega
    rw[if_neg (by omega),if_pos D2,Nat.mod_eq_of_lt D2]at ag
    rw[ag];rfl
   ·cases f with
    |zero=>exact absurd (by simpa using hu) D2
    |succ f=>
     have az:hr (f+1) u=(u%128+128)::hr f (u/ 128):=by
      conv=>lhs;unfold hr
      rw[if_neg D2]
     rw[az]at av hm⊢
     have he:s.data.toList[k]? =some (UInt8.ofNat (u%128+128)):=by
      have:=congrArg (fun l=>l[0]?) av
      simpa[ri]using this
     have ag:=Ix he (by omega) a6
     have hn:(UInt8.ofNat (u%128+128)).toNat=u%128+128:=by simp[UInt8.toNat_ofNat'];omega
     rw[hn,if_neg (by omega),if_neg (by omega),show(u%128+128)%128=u%128 by omega]at ag
     rw[ag]
     have hd:s.data.toList.drop (k+1)=ri (hr f (u/ 128))++t:=by
      have:=congrArg (List.drop 1) av
      rw[List.drop_drop]at this;simpa[ri]using this
     have Iy:128^(k+1)=128*128^k:=by rw[Nat.pow_succ,Nat.mul_comm]
     have vA:acc+u%128*128^k+u/ 128*128^(k+1)=acc+u*128^k:=by
      rw[Iy]
      have:u/ 128*(128*128^k)=(u/ 128*128)*128^k:=by rw[Nat.mul_assoc]
      rw[this,Nat.add_assoc,←Nat.add_mul]
      congr 2
      omega
     have w1:acc+u%128*128^k<128^(k+1):=by
      have:u%128*128^k≤127*128^k:=Nat.mul_le_mul (by omega) (Nat.le_refl _)
      omega
     have:=Yh f (k+1) (acc+u%128*128^k) (u/ 128) t m (by omega) hd w1 (by rw[Nat.pow_succ]at hu;omega) (by rw[vA];exact tZ) (fun _=>by omega) (by simp only[List.length_cons]at hm;omega)
     dsimp only;rw[this,vA,List.length_cons]
     congr 3
     congr 1
     omega
theorem Yi{s:ByteArray}: ∀(m k acc:Nat) (U N:Int),k+m=s.size→acc<128^k→k≤9→bJ (sz s) k m (acc:Int)= .inl (U,N,0)→
 ∃(u:Nat) (t:List UInt8),U=((acc+u*128^k:Nat):Int)∧s.data.toList.drop k=ri (hr (9-k) u)++t∧N=((k+(hr (9-k) u).length:Nat):Int)∧(0<k→0<u)∧acc+u*128^k<18446744073709551616
 |0,k,acc,U,N,_,_,_,h=>by simp[bJ]at h
 |m+1,k,acc,U,N,ao,a6,an,h=>by
  have bE:k<s.data.toList.length:=by
   have:s.data.toList.length=s.size:=rfl
   omega
  obtain⟨e,he⟩: ∃e,s.data.toList[k]? =some e:=⟨_,List.getElem?_eq_getElem bE⟩
  have Yj:s.data.toList.drop k=e::s.data.toList.drop (k+1):=by
   rw[List.drop_eq_getElem_cons bE]
   congr 1
   rw[List.getElem?_eq_getElem bE]at he
   exact Option.some.inj he
  have zku:=QA e
  have Iy:128^(k+1)=128*128^k:=by rw[Nat.pow_succ,Nat.mul_comm]
  have zkv:128^k≤128^9:=Nat.pow_le_pow_right (by decide) an
  have QB:(128:Nat)^9=9223372036854775808:=by decide
  unfold bJ at h;rw[Ix he an a6]at h
  split at h
  ·rename_i r ah
   split at ah
   ·cases ah;cases h
   ·rename_i aG
    split at ah
    ·rename_i hc
     cases ah;simp only[Sum.inl.injEq,Prod.mk.injEq]at h;obtain⟨rfl,rfl,_⟩:=h
     have az:hr (9-k) e.toNat=[e.toNat]:=by
      rcases Nat.lt_or_ge k 9 with hG|hG
      ·obtain⟨f,hf⟩: ∃f,9-k=f+1:=⟨8-k,by omega⟩
       rw[hf];unfold hr;rw[if_pos hc]
      ·rw[show 9-k=0 by omega];rfl
     have tZ:acc+e.toNat*128^k<18446744073709551616:=by
      rcases Nat.lt_or_ge k 9 with hG|hG
      ·have ar:128^k≤128^8:=Nat.pow_le_pow_right (by decide) (by omega)
       have ae:e.toNat*128^k≤127*128^8:=Nat.mul_le_mul (by omega) ar
       have zi6:127*(128:Nat)^8=9151314442816847872:=by decide
       omega
      ·have xK:k=9:=by omega
       subst xK
       have:e.toNat*128^9≤1*128^9:=Nat.mul_le_mul (by omega) (Nat.le_refl _)
       omega
     refine⟨e.toNat,s.data.toList.drop (k+1),by rw[Nat.mod_eq_of_lt hc],?_,by rw[az];rfl,fun aS=>by omega,tZ⟩
     rw[az,Yj];simp[ri]
    ·cases ah
  ·rename_i a ah
   split at ah
   ·cases ah
   ·split at ah<;>cases ah
  ·rename_i a ah
   split at ah
   ·cases ah
   ·rename_i aG
    split at ah
    ·cases ah
    ·rename_i hc
     cases ah
     have Yk:k≤8:=by
      rcases Nat.lt_or_ge k 9 with hG|hG
      ·omega
      ·exact absurd (Or.inr ⟨by omega,by omega⟩) aG
     have w1:acc+e.toNat%128*128^k<128^(k+1):=by
      have:e.toNat%128*128^k≤127*128^k:=Nat.mul_le_mul (by omega) (Nat.le_refl _)
      omega
     obtain⟨u,t,ab,ae,aw,aM,bn⟩:=Yi m (k+1) (acc+e.toNat%128*128^k) U N (by omega) w1 (by omega) h
     have zkw:=aM (by omega)
     have vA:acc+e.toNat%128*128^k+u*128^(k+1)=acc+(e.toNat%128+u*128)*128^k:=by
      rw[Iy,Nat.add_mul,Nat.add_assoc,Nat.mul_assoc]
     have az:hr (9-k) (e.toNat%128+u*128)=e.toNat::hr (9-(k+1)) u:=by
      rw[show 9-k=(9-(k+1))+1 by omega]
      conv=>lhs;unfold hr
      rw[if_neg (by omega)]
      congr 1
      ·omega
      ·congr 1
       omega
     refine⟨e.toNat%128+u*128,t,by rw[ab,vA],?_,?_,fun _=>by omega,by rw[←vA];exact bn⟩
     ·rw[az,Yj,ae]
      simp[ri]
     ·rw[az,aw,List.length_cons]
      congr 1
      omega
theorem zi7{u:Nat}(h:u<18446744073709551616)(t:ByteArray):jZ (ja u++t)=((u:Int),(((ja u).size:Nat):Int),0):=by
 have av:(ja u++t).data.toList.drop 0=ri (hr 9 u)++t.data.toList:=by
  rw[List.drop_zero,ByteArray.data_append,Array.toList_append,Ye]
 have hm:(hr 9 u).length≤(ja u++t).size:=by
  rw[ByteArray.size_append,D1];omega
 have:=Yh 9 0 0 u t.data.toList (ja u++t).size rfl av (by decide) (Nat.lt_of_lt_of_le h (by decide)) (by omega) (fun aS=>absurd aS (by decide)) hm
 unfold jZ AB
 rw[show(0:Int)=((0:Nat):Int)from rfl,this,D1]
 simp
theorem QC{s:ByteArray}{U N:Int}(h:jZ s=(U,N,0)): ∃(u:Nat) (t:ByteArray),U=(u:Int)∧s=ja u++t∧N=(((ja u).size:Nat):Int)∧u<18446744073709551616:=by
 unfold jZ at h
 split at h
 ·rename_i r ah
  subst h;unfold AB at ah;obtain⟨u,t,ab,ae,aw,_,bn⟩:=Yi s.size 0 0 U N (by omega) (by decide) (by decide) ah
  refine⟨u,⟨t.toArray⟩,by rw[ab];simp,pT ?_,by rw[aw,D1];simp,by omega⟩
  rw[ByteArray.data_append,Array.toList_append,Ye];simpa using ae
 ·simp at h
theorem zi8(k:IntKind)(a b:Int):iO k a b=iO k b a:=by
 unfold iO
 rw[BitVec.xor_comm]
theorem zi9(a:Nat)(h:a<9223372036854775808):iO .i64 (a:Int) 0=(a:Int):=by
 unfold iO
 have e:BitVec.ofInt IntKind.i64.bits (0:Int)=0#_:=rfl
 rw[e,BitVec.xor_zero]
 have:(BitVec.ofInt 64 (a:Int)).toNat=a:=ofInt_u64 a (by omega)
 show IntKind.i64.wrap (((BitVec.ofInt 64 (a:Int)).toNat:Nat):Int)=_
 rw[this,iy _ (by omega) (by omega)]
theorem zja(a:Nat)(h:a<9223372036854775808):iO .i64 (a:Int) (-1)= -1-(a:Int):=by
 rw[zi8]
 exact i64_not a h
theorem QD{u:Nat}(h:u<18446744073709551616):iO .i64 (IntKind.i64.wrap ((u:Int).fdiv 2)) (IntKind.i64.wrap (0-IntKind.i64.wrap (l0 .u64 (u:Int) 1)))=pZ u:=by
 have aD:IntKind.i64.wrap ((u:Int).fdiv 2)=((u/ 2:Nat):Int):=by
  rw[Int.fdiv_eq_ediv_of_nonneg _ (by decide),iy _ (by omega) (by omega)]
  omega
 have bg:l0 .u64 (u:Int) 1=((u%2:Nat):Int):=by
  rw[show(1:Int)=((1:Nat):Int)from rfl,zi1 _ _ h (by decide),nat_mask1]
 rw[aD,bg]
 unfold pZ
 split
 ·rename_i aS
  rw[aS];exact zi9 _ (by omega)
 ·rename_i aS
  rw[show u%2=1 by omega]
  exact zja _ (by omega)
theorem Yl(a t:ByteArray):(a++t).extract a.size (a++t).size=t:=by
 refine pT ?_
 rw[ByteArray.data_extract,Array.toList_extract,ByteArray.data_append,Array.toList_append,ByteArray.size_append]
 have a6:a.size=a.data.toList.length:=rfl
 have aJ:t.size=t.data.toList.length:=rfl
 rw[a6,aJ]
 simp[List.extract]
 exact List.take_of_length_le (Nat.le_refl _)
structure zjb {α:Type} (read:Rd→α × Rd) (write:α→ByteArray) (ok:α→Prop):Prop where
 enc: ∀(a:α) (t:ByteArray),ok a→read (AD (write a++t))=(a,AD t)
 dec: ∀(r:Rd),cL (read r).2=0→∃(a:α) (t:ByteArray),r=AD (write a++t)∧ok a∧read r=(a,AD t)
theorem Ym{r:Rd}(h:cL r=0):r=AD r.rest:=by
 obtain⟨s,e,m⟩:=r
 unfold cL at h
 cases m with
 |false=>cases h
 |true=>simp at h;rw[h]
theorem Yn(s:ByteArray):cL (AD s)=0:=rfl
theorem AE{r:Rd}(h:cL r≠0):bx r=(0,r):=by
 unfold bx
 rw[show(cL r != 0)=true by simpa using h]
 rfl
theorem zjc:zjb bx Iw eO:=by
 refine⟨fun n t hn=>?_,fun r h=>?_⟩
 ·rw[Qy hn]
  unfold bx;rw[Yn]
  try dsimp only
  rw[zi7 (p0 hn)]
  try dsimp only
  rw[QD (p0 hn),ziY,Int.toNat_natCast,Yl];rfl
 ·by_cases aS:cL r=0
  ·rw[Ym aS]at h⊢
   generalize r.rest=s at*;unfold bx at h⊢;rw[Yn]at h⊢
   try dsimp only at h⊢
   rcases az:jZ s with⟨U,N,E⟩
   rw[az]at h
   try dsimp only at h⊢
   by_cases h5:E=0
   ·subst h5
    obtain⟨u,t,rfl,rfl,rfl,hu⟩:=QC az;refine⟨pZ u,t,by rw[Qy (X4 hu),ziZ],X4 hu,?_⟩
    rw[QD hu,Int.toNat_natCast,Yl];rfl
   ·rw[show(E != 0)=true by simpa using h5]at h
    have:cL (⟨s,E,true⟩:Rd)=0:=h
    exact absurd this h5
  ·rw[AE aS]at h
   exact absurd h aS
theorem P5{r:Rd}(n:Int)(h:cL r≠0):cH r n=(0,r):=by
 unfold cH
 rw[AE h,show(cL r != 0)=true by simpa using h]
 rfl
theorem zjd{r:Rd}(n:Int)(h:cL r≠0):iZ r n=(⟨#[]⟩,r):=by
 unfold iZ
 rw[P5 n h,show(cL r != 0)=true by simpa using h]
 rfl
end Go.aK
namespace Go.aK
open Go Go.aK Go.fb
theorem Yo{v:dz}(h:kQ v=0):v.s.size≤60:=by
 unfold kQ at h
 simp only[cond_eq_ite]at h
 repeat' split at h
 all_goals first
  |(cases h;done)
  |(rename_i aG _;simp at aG;omega)
  |(rename_i aG;simp at aG;omega)
theorem Yp{a b:ByteArray}:gB a b=true↔a=b:=by rw[FW];simp
theorem Xh{v:dz}(h:kQ v=0):(v.kind=0∧v.n=0∧v.s=⟨#[]⟩)∨((v.kind=1∨v.kind=2∨v.kind=3)∧v.s=⟨#[]⟩∧ -1099511627776≤v.n∧v.n≤1099511627776)∨(v.kind=4∧v.n=0∧v.s.size≤60):=by
 have bT:=Yo h
 unfold kQ at h
 cases eh:(((v.kind==0)||(v.kind==4))||((v.kind==1)||((v.kind==2)||(v.kind==3))))with
 |false=>rw[eh]at h;cases h
 |true=>
  rw[eh]at h
  cases ig:(bif((v.kind==0)||(v.kind==4))then(v.n==0)else(bif(v.kind==1)then((v.n==0)||(v.n==1))else(bif(v.kind==2)then DZ v.n else(decide (v.n≥0)&&decide (v.n≤63)))))with
  |false=>rw[ig]at h;cases h
  |true=>
   rw[ig]at h;simp only[cond_true,Bool.not_true,cond_false]at h;simp only[cond_eq_ite]at h
   split at h
   ·cases h
   ·split at h
    ·cases h
    ·rename_i aw
     have ao:v.kind≠4→v.s=⟨#[]⟩:=fun an=>by
      simp only[Bool.and_eq_true,bne_iff_ne,ne_eq,not_and,Decidable.not_not,Bool.not_eq_true']at aw
      cases aG:gB v.s ⟨#[]⟩with
      |true=>exact Yp.1 aG
      |false=>exact absurd (aw aG) an
     simp only[Bool.or_eq_true,beq_iff_eq]at eh
     rcases eh with (aS|aM)|ab|ae|aw
     ·exact .inl ⟨aS,by simpa[aS]using ig,ao (by omega)⟩
     ·exact .inr (.inr ⟨aM,by simpa[aM]using ig,bT⟩)
     ·refine .inr (.inl ⟨.inl ab,ao (by omega),?_⟩)
      simp[ab]at ig;omega
     ·refine .inr (.inl ⟨.inr (.inl ae),ao (by omega),?_⟩)
      simp[ae,DZ]at ig;omega
     ·refine .inr (.inl ⟨.inr (.inr aw),ao (by omega),?_⟩)
      simp[aw]at ig;omega
def kR(r:Rd):dz × Rd:=
 if(bx r).1=1∨(bx r).1=2∨(bx r).1=3 then(⟨(bx r).1,(bx (bx r).2).1,⟨#[]⟩⟩,(bx (bx r).2).2)
 else if(bx r).1=4 then(⟨(bx r).1,0,(iZ (bx r).2 60).1⟩,(iZ (bx r).2 60).2)else(⟨(bx r).1,0,⟨#[]⟩⟩,(bx r).2)
theorem D3(r:Rd):D0 r=(kR r).1∧xI r=(kR r).2:=by
 unfold D0 xI kR
 simp only[cond_eq_ite,Bool.or_eq_true,beq_iff_eq]
 split
 ·exact⟨rfl,rfl⟩
 ·split<;>exact⟨rfl,rfl⟩
theorem zje(r:Rd):mW r=if kQ (kR r).1=0 then(if cL (kR r).2=0 then kR r else(⟨0,0,⟨#[]⟩⟩,(kR r).2))else(⟨0,0,⟨#[]⟩⟩,pX (kR r).2 4):=by
 have hf: ∀r:Rd,cL (pX r 4)≠0:=by
  intro r h;unfold pX at h
  by_cases aS:cL r=0
  ·rw[show(cL r==0)=true by simpa using aS]at h
   rw[Ym aS]at h;cases h
  ·rw[show(cL r==0)=false by simpa using aS]at h
   exact aS h
 unfold mW tY
 rw[(D3 r).1,(D3 r).2]
 by_cases ab:kQ (kR r).1=0
 ·rw[if_pos ab,show(kQ (kR r).1 != 0)=false by simpa using ab,cond_false]
  by_cases ae:cL (kR r).2=0
  ·rw[if_pos ae,show(cL (kR r).2 != 0)=false by simpa using ae]
   rfl
  ·rw[if_neg ae,show(cL (kR r).2 != 0)=true by simpa using ae]
   rfl
 ·rw[if_neg ab,show(kQ (kR r).1 != 0)=true by simpa using ab,cond_true,show(cL (pX (kR r).2 4) != 0)=true by simpa using hf _]
  rfl
theorem zit{r:Rd}(h:cL r≠0):mW r=(⟨0,0,⟨#[]⟩⟩,r):=by
 have aJ:kR r=(⟨0,0,⟨#[]⟩⟩,r):=by
  unfold kR;rw[AE h];rfl
 rw[zje,aJ]
 have:kQ (⟨0,0,⟨#[]⟩⟩:dz)=0:=by decide
 rw[if_pos this,if_neg h]
end Go.aK
namespace Go.aK
open Go Go.aK Go.fb
theorem eR{r:bK}(h:cT r):cT (bY r).2:=by
 unfold bY
 cases (dI r != 0)with
 |true=>exact h
 |false=>
  simp only[cond_false]
  split
  ·rename_i q aG
   have key: ∀(m k:Nat) (a:Int) (q:Int × bK),k+m≤10→bJ (pY r) k m a= .inl q→cT q.2:=by
    intro m
    induction m with
    |zero=>intro k a r _ h;simp[bJ]at h
    |succ m aY=>
     intro k a q an av;unfold bJ at av
     split at av
     ·rename_i iF ag
      simp only[Sum.inl.injEq]at av;subst av;obtain⟨ab,ae,aw⟩:=h;unfold pY at ag;simp only[cond_eq_ite,decide_eq_true_eq]at ag
      have br:IntKind.i64.wrap (r.at_+(k:Int))=r.at_+(k:Int):=iy _ (by omega) (by omega)
      rw[br]at ag
      split at ag
      ·cases ag;exact⟨ab,ae,aw⟩
      ·rename_i bE
       have dV:IntKind.i64.wrap (r.at_+(k:Int)+1)=r.at_+(k:Int)+1:=iy _ (by omega) (by omega)
       rw[dV]at ag
       split at ag
       ·split at ag
        ·cases ag;exact⟨ab,ae,aw⟩
        ·split at ag
         ·cases ag;exact⟨by first|omega|(dsimp only;omega),by first|omega|(dsimp only;omega),aw⟩
         ·cases ag
       ·cases ag
     ·cases av
     ·exact aY _ _ _ (by omega) av
   exact key _ _ _ _ (by omega) aG
  ·exact h
theorem Av(r:bK)(n:Int):0≤(da r n).1:=by
 unfold da
 cases eh:(dI ((bY r).2) != 0)with
 |true=>exact Int.le_refl _
 |false=>
  simp only[cond_false]
  cases ig:decide ((bY r).1<0)with
  |true=>exact Int.le_refl _
  |false=>
   have ig:=of_decide_eq_false ig
   simp only[cond_false,cond_eq_ite]
   repeat' split
   all_goals first|exact Int.le_refl _|omega|(dsimp only;omega)
theorem ziB(r:bK)(n:Int)(hn:0≤n):(da r n).1≤n:=by
 unfold da
 simp only[cond_eq_ite,decide_eq_true_eq]
 repeat' split
 all_goals first|exact hn|omega|(dsimp only;omega)
theorem tT{r:bK}{n:Int}(h:cT r):cT (da r n).2:=by
 have h:=eR h
 unfold da
 simp only[cond_eq_ite]
 repeat' split
 all_goals exact h
theorem iE{r:bK}{n:Int}(h:cT r):cT (ih r n).2:=by
 have h:=tT (n:=n) h
 have hn:=Av r n
 unfold ih
 generalize hc:da r n=c at*
 obtain⟨ab,ae,aw⟩:=h
 have br:IntKind.i64.wrap ((c.2.s.size:Int)-c.2.at_)=(c.2.s.size:Int)-c.2.at_:=iy _ (by omega) (by omega)
 rw[br]
 simp only[cond_eq_ite,decide_eq_true_eq]
 repeat' split
 ·exact⟨ab,ae,aw⟩
 ·exact⟨ab,ae,aw⟩
 ·have dV:IntKind.i64.wrap (c.2.at_+c.1)=c.2.at_+c.1:=iy _ (by omega) (by omega)
  rw[dV];exact⟨by first|omega|(dsimp only;omega),by first|omega|(dsimp only;omega),aw⟩
theorem zjf{r:bK}(h:cT r):cT (sm r):=by
 unfold sm
 cases ((bY r).1==4)with
 |true=>exact iE (eR h)
 |false=>exact eR h
theorem zjg{r:bK}{e:Int}(h:cT r):cT (xJ r e):=by
 unfold xJ
 simp only[cond_eq_ite]
 split<;>exact h
theorem Qc{r:bK}(h:cT r):cT (rf r).2:=by
 have ae:=zjf h
 have aM:cT (o1 r):=by
  unfold o1;simp only[cond_eq_ite]
  split
  ·exact eR ae
  ·exact ae
 have bn:cT (sl r):=by
  unfold sl;simp only[cond_eq_ite]
  split
  ·exact zjg aM
  ·exact aM
 unfold rf
 simp only[cond_eq_ite]
 split<;>exact bn
theorem xF(s:ByteArray)(n:Nat):(s.extract n s.size).data.toList=s.data.toList.drop n:=by
 rw[ByteArray.data_extract,Array.toList_extract]
 have ao:s.size=s.data.toList.length:=rfl
 rw[ao]
 simp[List.extract]
 rw[List.take_of_length_le (l:=List.drop n s.data.toList) (by rw[List.length_drop];exact Nat.le_refl _)]
theorem P3(s:ByteArray)(n j:Nat):(s.extract n s.size).extract j (s.extract n s.size).size=s.extract (n+j) s.size:=pT (by
 rw[xF,xF,xF,List.drop_drop])
def js(r:Rd)(q:bK):Prop:=cT q∧r=⟨q.s.extract q.at_.toNat q.s.size,q.bad,q.made⟩
theorem lL{r:Rd}{q:bK}(h:js r q):cL r=dI q:=by
 rw[h.2]
 rfl
theorem zjh{q:bK}(au:cT q){k acc:Nat}(an:k≤9)(a6:acc<128^k){e:UInt8}(he:(q.s.extract q.at_.toNat q.s.size).data.toList[k]? =some e):pY q k (acc:Int)=
 if(0<k∧e.toNat=0)∨(k=9∧1<e.toNat)then .ret (0,⟨q.s,q.at_,4,q.made⟩)else if e.toNat<128 then .ret (pZ (acc+e.toNat%128*128^k),⟨q.s,q.at_+((k+1:Nat):Int),q.bad,q.made⟩)else .bM ((acc+e.toNat%128*128^k:Nat):Int):=by
 obtain⟨ab,ae,aw⟩:=au
 have hu:=QA e
 rw[xF,List.getElem?_drop]at he
 have bE:q.at_.toNat+k<q.s.size:=(List.getElem?_eq_some_iff.1 he).1
 have br:IntKind.i64.wrap (q.at_+(k:Int))=q.at_+(k:Int):=iy _ (by omega) (by omega)
 have dV:IntKind.i64.wrap (q.at_+(k:Int)+1)=q.at_+((k+1:Nat):Int):=by rw[iy _ (by omega) (by omega)];omega
 have nE:(q.at_+(k:Int)).toNat=q.at_.toNat+k:=by omega
 unfold pY
 dsimp only
 rw[br,decide_eq_false (show ¬q.at_+(k:Int)≥(q.s.size:Int)by omega),cond_false,nE,he]
 dsimp only
 rw[dV]
 have zji:(e.toNat:Int).tmod 128=l0 .u8 (e.toNat:Int) 127:=by
  rw[show(127:Int)=((127:Nat):Int)from rfl,X5 _ _ hu (by decide),nat_mask7,Int.tmod_eq_emod_of_nonneg (by omega)]
  omega
 rw[zji,cond_eq_ite]
 by_cases ab:(0<k∧e.toNat=0)∨(k=9∧1<e.toNat)
 ·rw[if_pos ab,if_pos]
  simp only[Bool.or_eq_true,Bool.and_eq_true,decide_eq_true_eq,beq_iff_eq];omega
 ·have hd:e.toNat%128*128^k<9223372036854775808*2∧acc+e.toNat%128*128^k<18446744073709551616:=by
   rcases Nat.lt_or_ge k 9 with hG|hG
   ·have ar:128^k≤128^8:=Nat.pow_le_pow_right (by decide) (by omega)
    have:e.toNat%128*128^k≤127*128^8:=Nat.mul_le_mul (by omega) ar
    have zi6:(128:Nat)^8=72057594037927936:=by decide
    omega
   ·have xK:k=9:=by omega
    subst xK
    have:e.toNat%128*128^9≤1*128^9:=Nat.mul_le_mul (by omega) (Nat.le_refl _)
    have QB:(128:Nat)^9=9223372036854775808:=by decide
    omega
  rw[if_neg ab,if_neg (by
   simp only[Bool.or_eq_true,Bool.and_eq_true,decide_eq_true_eq,beq_iff_eq]
   omega),Yg an hu a6 (by omega),cond_eq_ite]
  by_cases ae:e.toNat<128
  ·rw[if_pos ae,if_pos (by rw[decide_eq_true_eq];omega)]
   generalize acc+e.toNat%128*128^k=Z at*
   have v1:IntKind.i64.wrap ((Z:Int).fdiv 2)=((Z/ 2:Nat):Int):=by
    rw[Int.fdiv_eq_ediv_of_nonneg _ (by decide),iy _ (by omega) (by omega)]
    omega
   have v2:(Z:Int).tmod 2=((Z%2:Nat):Int):=by rw[Int.tmod_eq_emod_of_nonneg (by omega)];omega
   rw[v1,v2];unfold pZ
   by_cases aS:Z%2=0
   ·rw[if_pos aS,aS]
    rfl
   ·rw[if_neg aS,show Z%2=1 by omega,iy _ (by omega) (by omega)]
    rfl
  ·rw[if_neg ae,if_neg (by rw[decide_eq_true_eq];omega)]
theorem zjj{q:bK}(au:cT q){k:Nat}{acc:Int}(an:k≤9)(he:q.s.size≤q.at_.toNat+k):pY q k acc= .ret (0,⟨q.s,q.at_,5,q.made⟩):=by
 obtain⟨ab,ae,aw⟩:=au
 have br:IntKind.i64.wrap (q.at_+(k:Int))=q.at_+(k:Int):=iy _ (by omega) (by omega)
 unfold pY
 dsimp only
 rw[br,decide_eq_true (show q.at_+(k:Int)≥(q.s.size:Int)by omega)]
 rfl
theorem Yq{q:bK}(au:cT q): ∀(m k acc:Nat),k+m=10→k≤9→acc<128^k→k≤(q.s.extract q.at_.toNat q.s.size).size→
 bJ (pY q) k m (acc:Int)=match bJ (sz (q.s.extract q.at_.toNat q.s.size)) k ((q.s.extract q.at_.toNat q.s.size).size-k) (acc:Int)with
  | .inl (U,N,E)=>if E=0 then .inl (pZ U.toNat,⟨q.s,q.at_+N,q.bad,q.made⟩)else .inl (0,⟨q.s,q.at_,E,q.made⟩)
  | .inr _=>.inl (0,⟨q.s,q.at_,5,q.made⟩)
 |0,k,acc,hm,an,_,_=>by omega
 |m+1,k,acc,hm,an,a6,bT=>by
  have zkx:(q.s.extract q.at_.toNat q.s.size).size=q.s.size-q.at_.toNat:=by rw[ByteArray.size_extract];omega
  rcases Nat.lt_or_ge k (q.s.extract q.at_.toNat q.s.size).size with bE|jP
  ·obtain⟨e,he⟩: ∃e,(q.s.extract q.at_.toNat q.s.size).data.toList[k]? =some e:=⟨_,List.getElem?_eq_getElem (by exact bE)⟩
   have ar:0<128^k:=Nat.pow_pos (by decide)
   obtain⟨j,aj⟩: ∃j,(q.s.extract q.at_.toNat q.s.size).size-k=j+1:=⟨(q.s.extract q.at_.toNat q.s.size).size-k-1,by omega⟩
   rw[aj];unfold bJ;rw[zjh au an a6 he,Ix he an a6]
   by_cases ab:(0<k∧e.toNat=0)∨(k=9∧1<e.toNat)
   ·rw[if_pos ab,if_pos ab]
    rfl
   ·rw[if_neg ab,if_neg ab]
    by_cases ae:e.toNat<128
    ·rw[if_pos ae,if_pos ae]
     dsimp only;rw[if_pos rfl,Int.toNat_natCast]
    ·rw[if_neg ae,if_neg ae]
     dsimp only
     have Iy:128^(k+1)=128*128^k:=by rw[Nat.pow_succ,Nat.mul_comm]
     have w1:acc+e.toNat%128*128^k<128^(k+1):=by
      have:e.toNat%128*128^k≤127*128^k:=Nat.mul_le_mul (by omega) (Nat.le_refl _)
      omega
     have Yk:k+1≤9:=by
      rcases Nat.lt_or_ge k 9 with hG|hG
      ·omega
      ·exact absurd (Or.inr ⟨by omega,by omega⟩) ab
     rw[Yq au m (k+1) _ (by omega) Yk w1 (by omega),show(q.s.extract q.at_.toNat q.s.size).size-(k+1)=j by omega]
  ·rw[show(q.s.extract q.at_.toNat q.s.size).size-k=0 by omega]
   unfold bJ;rw[zjj au an (by omega)]
def xE{α:Type}(R:Rd→α × Rd)(S:bK→α × bK):Prop:=∀r q,js r q→(R r).1=(S q).1∧js (R r).2 (S q).2
theorem Aq{q:bK}(h:dI q≠0):bY q=(0,q):=by
 unfold bY
 rw[show(dI q != 0)=true by simpa using h]
 rfl
theorem Ar:xE bx bY:=by
 intro r q h
 have ah:=h
 by_cases aS:dI q=0
 ·have ic:=eR h.1
  have ar:=h.1
  obtain⟨au,rfl⟩:=h;unfold bY Qw at ic⊢;unfold bx;rw[lL ah,aS];rw[aS]at ic;simp only[bne_self_eq_false,cond_false]at ic⊢
  have av:=Yq au 10 0 0 (by omega) (by omega) (by decide) (by omega)
  rw[Nat.sub_zero]at av;rw[show((0:Nat):Int)=0 from rfl]at av
  rw[av]at ic⊢;generalize ao:q.s.extract q.at_.toNat q.s.size=rest at*;unfold jZ AB
  cases az:bJ (sz rest) 0 rest.size 0 with
  |inr a=>
   rw[az]at ic;dsimp only at ic⊢;exact⟨rfl,ic,by rw[←ao];rfl⟩
  |inl p=>
   obtain⟨U,N,E⟩:=p;rw[az]at ic;dsimp only at ic⊢
   by_cases h5:E=0
   ·subst h5
    have zjk:jZ rest=(U,N,0):=by
     unfold jZ AB;rw[az]
    obtain⟨u,t,u3,aJ,me,hu⟩:=QC zjk;subst u3 me;rw[if_pos rfl]at ic⊢;dsimp only at ic⊢
    have m5:rest.extract ((((ja u).size:Nat):Int)).toNat rest.size=q.s.extract (q.at_+(((ja u).size:Nat):Int)).toNat q.s.size:=by
     rw[←ao,P3,Int.toNat_natCast]
     have:=ar.1
     congr 1
     omega
    refine⟨?_,ic,?_⟩
    ·show iO .i64 _ _=_
     rw[QD hu,Int.toNat_natCast]
    ·show(⟨rest.extract ((((ja u).size:Nat):Int)).toNat rest.size,q.bad,q.made⟩:Rd)=_
     rw[m5]
   ·rw[if_neg h5]at ic⊢
    rw[show(E != 0)=true by simpa using h5]
    exact⟨rfl,ic,by rw[←ao];rfl⟩
 ·rw[Aq aS,AE (by rw[lL h];exact aS)]
  exact⟨rfl,h⟩
theorem Yr{r:Rd}{q:bK}(h:js r q):(r.rest.size:Int)=(q.s.size:Int)-q.at_:=by
 obtain⟨⟨ab,ae,aw⟩,rfl⟩:=h
 show(((q.s.extract q.at_.toNat q.s.size).size:Nat):Int)=_
 rw[ByteArray.size_extract]
 omega
theorem QE(n:Int):xE (fun r=>cH r n) (fun q=>da q n):=by
 intro r q h
 obtain⟨ab,ae⟩:=Ar r q h
 show(cH r n).1=(da q n).1∧js (cH r n).2 (da q n).2
 unfold cH da
 rw[lL ae,ab]
 have hm:(if 0>n then(0:Int)else n)=bif decide (n<0)then 0 else n:=by
  rw[cond_eq_ite]
  by_cases hn:n<0
  ·rw[if_pos hn,if_pos (decide_eq_true hn)]
  ·rw[if_neg hn,if_neg (by simpa using hn)]
 rw[hm]
 have an: ∀e:Int,js ⟨(bx r).2.rest,e,(bx r).2.made⟩ ⟨(bY q).2.s,(bY q).2.at_,e,(bY q).2.made⟩:=fun e=>by
  obtain⟨au,ah⟩:=ae;refine⟨au,?_⟩
  rw[ah]
 cases (dI (bY q).2 != 0)with
 |true=>exact⟨rfl,ae⟩
 |false=>
  simp only[cond_false]
  cases decide ((bY q).1<0)with
  |true=>exact⟨rfl,an 4⟩
  |false=>
   simp only[cond_false]
   cases decide ((bY q).1>bif decide (n<0)then 0 else n)with
   |true=>exact⟨rfl,an 3⟩
   |false=>exact⟨rfl,ae⟩
theorem zjl(s:ByteArray)(n j:Nat)(h:n+j≤s.size):(s.extract n s.size).extract 0 j=s.extract n (n+j):=pT (by
 rw[ByteArray.data_extract,Array.toList_extract,xF,ByteArray.data_extract,Array.toList_extract]
 have ao:s.size=s.data.toList.length:=rfl
 simp only[List.extract,List.drop_zero,Nat.sub_zero]
 rw[show n+j-n=j by omega])
theorem Xs(n:Int):xE (fun r=>iZ r n) (fun q=>ih q n):=by
 intro r q h
 obtain⟨ab,ae⟩:=QE n r q h
 have zky:=Av q n
 show(iZ r n).1=(ih q n).1∧js (iZ r n).2 (ih q n).2
 have ic:=iE (n:=n) h.1
 unfold ih at ic⊢
 unfold iZ
 dsimp only at ab ae
 rw[lL ae,ab]
 have bT:=Yr ae
 obtain⟨au,ah⟩:=ae
 obtain⟨oj,E9,Ys⟩:=au
 generalize da q n=c at*
 rw[ah]at bT⊢
 generalize hd:cH r n=d at*
 have br:IntKind.i64.wrap ((c.2.s.size:Int)-c.2.at_)=(c.2.s.size:Int)-c.2.at_:=iy _ (by omega) (by omega)
 rw[br]at ic⊢
 dsimp only at bT⊢
 rw[bT]
 cases h5:(dI c.2 != 0)with
 |true=>
  exact⟨rfl,⟨oj,E9,Ys⟩,rfl⟩
 |false=>
  rw[h5]at ic;simp only[cond_false]at ic⊢
  by_cases ai:c.1>(c.2.s.size:Int)-c.2.at_
  ·rw[decide_eq_true ai]
   exact⟨rfl,⟨oj,E9,Ys⟩,rfl⟩
  ·rw[decide_eq_false ai]at ic⊢
   simp only[cond_false]at ic⊢;refine⟨?_,ic,?_⟩
   ·rw[zjl _ _ _ (by omega)]
    congr 1
    omega
   ·have dV:IntKind.i64.wrap (c.2.at_+c.1)=c.2.at_+c.1:=iy _ (by omega) (by omega)
    rw[dV,P3]
    have:c.2.at_.toNat+c.1.toNat=(c.2.at_+c.1).toNat:=by omega
    rw[this]
theorem P6{q:bK}(n:Int)(h:dI q≠0):da q n=(0,q):=by
 unfold da
 rw[Aq h,show(dI q != 0)=true by simpa using h]
 rfl
theorem zjm{q:bK}(n:Int)(h:dI q≠0):ih q n=(⟨#[]⟩,q):=by
 unfold ih
 rw[P6 n h,show(dI q != 0)=true by simpa using h]
 rfl
theorem zjn{r:Rd}{q:bK}(e:Int)(h:js r q):js (pX r e) (xJ q e):=by
 unfold pX xJ
 rw[lL h]
 cases (dI q==0)with
 |true=>exact⟨h.1,by rw[h.2];rfl⟩
 |false=>exact h
theorem ziu:xE mW rf:=by
 intro r q h
 obtain⟨ab,ae⟩:=Ar r q h
 obtain⟨ct,a2⟩:=Xs 60 _ _ ae
 obtain⟨fV,h3⟩:=Ar _ _ ae
 dsimp only at ct a2
 have az:(kR r).1=vF q∧js (kR r).2 (o1 q):=by
  have Bl:(n2 q).kind=(bY q).1:=by
   unfold n2
   cases ((bY q).1==4)<;>rfl
  unfold kR vF o1;rw[Bl,ab]
  by_cases aM:(bY q).1=4
  ·rw[if_neg (by omega),if_pos aM,show(decide ((bY q).1≥1)&&decide ((bY q).1≤3))=false by rw[aM];rfl]
   simp only[cond_false];unfold n2 sm;rw[show((bY q).1==4)=true by simpa using aM]
   simp only[cond_true];exact⟨by rw[ct],a2⟩
  ·have aD:n2 q=⟨(bY q).1,0,⟨#[]⟩⟩:=by
    unfold n2;rw[show((bY q).1==4)=false by simpa using aM]
    rfl
   have bg:sm q=(bY q).2:=by
    unfold sm;rw[show((bY q).1==4)=false by simpa using aM]
    rfl
   rw[aD,bg]
   by_cases aw:(bY q).1=1∨(bY q).1=2∨(bY q).1=3
   ·rw[if_pos aw,show(decide ((bY q).1≥1)&&decide ((bY q).1≤3))=true by simp;omega]
    simp only[cond_true];exact⟨by rw[fV],h3⟩
   ·rw[if_neg aw,if_neg aM,show(decide ((bY q).1≥1)&&decide ((bY q).1≤3))=false by simp;omega]
    exact⟨rfl,ae⟩
 obtain⟨v1,v2⟩:=az
 have bn:js (tY r) (sl q):=by
  unfold tY sl;rw[(D3 r).1,(D3 r).2,v1,Xg]
  by_cases h5:dI (o1 q)=0
  ·rw[show(dI (o1 q)==0)=true by simpa using h5]
   simp only[Bool.true_and]
   cases (vM (vF q) != 0)with
   |true=>exact zjn 4 v2
   |false=>exact v2
  ·rw[show(dI (o1 q)==0)=false by simpa using h5]
   simp only[Bool.false_and,cond_false]
   cases (vM (vF q) != 0)with
   |true=>
    simp only[cond_true];unfold pX;rw[lL v2,show(dI (o1 q)==0)=false by simpa using h5]
    exact v2
   |false=>exact v2
 unfold mW rf
 rw[lL bn,(D3 r).1,v1]
 cases (dI (sl q) != 0)with
 |true=>exact⟨rfl,bn⟩
 |false=>exact⟨rfl,bn⟩
theorem zjo{r:Rd}{q:bK}(h:js r q):sy r=sv q:=by
 have ao:=Yr h
 unfold sy n3 sv
 rw[lL h]
 cases h5:(dI q != 0)with
 |true=>rfl
 |false=>
  have aS:dI q=0:=X2 h5
  simp only[cond_false];rw[ao,aS]
  by_cases av:q.at_<(q.s.size:Int)
  ·rw[decide_eq_true av,decide_eq_true (by omega)]
  ·rw[decide_eq_false av,decide_eq_false (by omega)]
end Go.aK
namespace Go.aK
open Go Go.fb
theorem zjp(u:Nat):dw .shr .u64 (u:Int) 7=((u/ 128:Nat):Int):=by
 show(u:Int).fdiv (2^(min (7:Int).toNat 64))=_
 rw[show(2:Int)^(min (7:Int).toNat 64)=128 from rfl,Int.fdiv_eq_ediv_of_nonneg _ (by decide)]
 omega
theorem zjq{u:Nat}(h:u<18446744073709551616):dw .quo .u64 (u:Int) 128=((u/ 128:Nat):Int):=by
 show IntKind.u64.wrap ((u:Int).tdiv 128)=_
 rw[Int.tdiv_eq_ediv_of_nonneg (by omega),vN]
 omega
def xL(R:Type)(c:Int × List Int):Step R (Int × List Int):=
 bif decide (c.1≥128)then .bM (dw .shr .u64 c.1 7,List.append c.2 [dw .or .u8 (IntKind.wrap .u8 c.1) 128])else .c9 (c.1,c.2)
def xM(R:Type)(c:Int × List Int):Step R (Int × List Int):=
 bif decide (c.1≥128)then .bM (dw .quo .u64 c.1 128,List.append c.2 [IntKind.wrap .u8 (IntKind.wrap .u8 (dw .rem .u64 c.1 128)+128)])else .c9 (c.1,c.2)
theorem zjr(R:Type){u:Nat}(acc:List Int)(h:u<128):xL R ((u:Int),acc)= .c9 ((u:Int),acc):=by
 unfold xL
 rw[show decide ((u:Int)≥128)=false from decide_eq_false (by omega)]
 rfl
theorem Yt(R:Type){u:Nat}(acc:List Int)(h: ¬u<128):xL R ((u:Int),acc)= .bM (((u/ 128:Nat):Int),acc++[((u%128+128:Nat):Int)]):=by
 unfold xL
 rw[show decide ((u:Int)≥128)=true from decide_eq_true (by omega),cond_true,zjp]
 show Step.bM (_,acc++[k6 .u8 (IntKind.u8.wrap (u:Int)) 128])=_
 rw[X9]
theorem zjs(R:Type){u:Nat}(acc:List Int)(h:u<128):xM R ((u:Int),acc)= .c9 ((u:Int),acc):=by
 unfold xM
 rw[show decide ((u:Int)≥128)=false from decide_eq_false (by omega)]
 rfl
theorem Yu(R:Type){u:Nat}(acc:List Int)(h: ¬u<128)(ae:u<18446744073709551616):xM R ((u:Int),acc)= .bM (((u/ 128:Nat):Int),acc++[((u%128+128:Nat):Int)]):=by
 unfold xM
 rw[show decide ((u:Int)≥128)=true from decide_eq_true (by omega),cond_true,zjq ae]
 show Step.bM (_,acc++[IntKind.u8.wrap (IntKind.u8.wrap ((u:Int).tmod 128)+128)])=_
 rw[zi4]
theorem Yv{R:Type}{b:Int × List Int→Step R (Int × List Int)}(av: ∀(u:Nat) acc,u<128→b ((u:Int),acc)= .c9 ((u:Int),acc))
 (ai: ∀(u:Nat) acc,¬u<128→u<18446744073709551616→b ((u:Int),acc)= .bM (((u/ 128:Nat):Int),acc++[((u%128+128:Nat):Int)])):
 ∀(f u F:Nat) (acc:List Int),u<128*128^f→u<18446744073709551616→f<F→∃(x:Nat) (l:List Int),dA b F ((u:Int),acc)= .inr ((x:Int),acc++l)∧(hr f u).map (fun b:Nat=>(b:Int))=l++[(x:Int)]∧x<128
 |f,u,0,acc,h,_,hF=>absurd hF (Nat.not_lt_zero _)
 |f,u,F+1,acc,h,tZ,hF=>by
  by_cases hu:u<128
  ·refine⟨u,[],by rw[Ya (av u acc hu),List.append_nil],?_,hu⟩
   cases f with
   |zero=>rfl
   |succ f=>unfold hr;rw[if_pos hu];rfl
  ·cases f with
   |zero=>exact absurd h (by simpa using hu)
   |succ f=>
    have ae:u/ 128<128*128^f:=by
     rw[Nat.pow_succ]at h;omega
    obtain⟨x,l,aD,bg,cM⟩:=Yv av ai f (u/ 128) F (acc++[((u%128+128:Nat):Int)]) ae (by omega) (by omega)
    refine⟨x,((u%128+128:Nat):Int)::l,?_,?_,cM⟩
    ·rw[Yb (ai u acc hu tZ),aD,List.append_assoc,List.singleton_append]
    ·unfold hr
     rw[if_neg hu,List.map_cons,bg,List.cons_append]
theorem Yw{R:Type}{b:Int × List Int→Step R (Int × List Int)}(av: ∀(u:Nat) acc,u<128→b ((u:Int),acc)= .c9 ((u:Int),acc))
 (ai: ∀(u:Nat) acc,¬u<128→u<18446744073709551616→b ((u:Int),acc)= .bM (((u/ 128:Nat):Int),acc++[((u%128+128:Nat):Int)])){u:Nat}(tZ:u<18446744073709551616):
 ∃(x:Nat) (l:List Int),dA b dt ((u:Int),[])= .inr ((x:Int),l)∧bytesOf (List.append l [IntKind.wrap .u8 (x:Int)])=ja u:=by
 obtain⟨x,l,aD,bg,cM⟩:=Yv av ai 9 u dt [] (Nat.lt_of_lt_of_le tZ (by decide)) tZ (by decide)
 refine⟨x,l,aD,?_⟩
 unfold ja
 rw[bg,IntKind.wrap_u8',show(x:Int)%256=(x:Int)by omega]
 rfl
theorem Yx{n:Int}(h:eO n):dw .xor .u64 (dw .shl .u64 (IntKind.wrap .u64 n) 1) (IntKind.wrap .u64 (dw .shr .i64 n 63))=((gX n:Nat):Int):=by
 have:dw .shr .i64 n 63=n.fdiv 9223372036854775808:=rfl
 rw[this]
 exact X7 h
theorem QF{n:Int}(h:eO n):dh n=ja (gX n):=by
 obtain⟨x,l,aD,bg⟩:=Yw (R:=ByteArray) (b:=xL ByteArray) (fun u acc=>zjr _ acc) (fun u acc h _=>Yt _ acc h) (p0 h)
 unfold dh
 rw[Yx h]
 show Sum.elim _ _ (dA (xL ByteArray) dt (((gX n:Nat):Int),[]))=_
 rw[aD]
 exact bg
theorem QG{n:Int}(h:eO n):dx n=ja (gX n):=by
 obtain⟨x,l,aD,bg⟩:=Yw (R:=ByteArray) (b:=xM ByteArray) (fun u acc=>zjs _ acc) (fun u acc h ae=>Yu _ acc h ae) (p0 h)
 have a6:=X8 h
 unfold dx
 dsimp only
 have key: ∀v:Int,v=((gX n:Nat):Int)→Sum.elim (fun r=>r) (fun aZ:Int × List Int=>bytesOf (List.append aZ.2 [IntKind.wrap .u8 aZ.1])) (dA (xM ByteArray) dt (v,[]))=ja (gX n):=by
  rintro v rfl
  rw[aD];exact bg
 cases hd:decide (n<0)with
 |true=>
  rw[hd,cond_true]at a6;exact key _ a6
 |false=>
  rw[hd,cond_false]at a6;exact key _ a6
theorem QH{u:Nat}:(ja u).size≤10:=by rw[D1];exact zi5 9 u
def ua(d:Int × List Int):Prop:=∃(u f:Nat),d.1=(u:Int)∧u<18446744073709551616∧u<128*128^f∧d.2.length+f≤9
theorem Yy{u:Nat}(h:u<18446744073709551616):ua ((u:Int),[]):=⟨u,9,rfl,h,Nat.lt_of_lt_of_le h (by decide),Nat.le_refl _⟩
theorem Yz{u:Nat}{acc:List Int}(h:ua ((u:Int),acc))(hu: ¬u<128):ua (((u/ 128:Nat):Int),acc++[((u%128+128:Nat):Int)]):=by
 obtain⟨v,f,ab,ae,aw,aM⟩:=h
 have:u=v:=by have:(u:Int)=v:=ab;omega
 subst this
 cases f with
 |zero=>exact absurd aw (by simpa using hu)
 |succ f=>
  have aM:acc.length+(f+1)≤9:=aM
  exact⟨u/ 128,f,rfl,by omega,by rw[Nat.pow_succ]at aw;omega,by show(acc++[_]).length+f≤9;rw[List.length_append];simp;omega⟩
theorem Iz{d:Int × List Int}(h:ua d):d.2.length≤9:=by
 obtain⟨_,f,_,_,_,aM⟩:=h
 omega
theorem YA{d:Int × List Int}(h:ua d): ∃(u:Nat) (acc:List Int),d=((u:Int),acc)∧u<18446744073709551616:=by
 obtain⟨u,_,ab,ae,_⟩:=h
 exact⟨u,d.2,by rw[←ab],ae⟩
theorem YB{n:Int}(h:eO n):fP n:=by
 unfold fP
 rw[Yx h]
 refine⟨ua,fun d=>d.1.toNat,Yy (p0 h),?_,fun d hd=>⟨fun hc=>?_,fun hc=>?_⟩⟩
 ·have:=p0 h
  show(((gX n:Nat):Int)).toNat<dt;unfold dt;omega
 ·obtain⟨u,acc,rfl,hu⟩:=YA hd
  have av:acc.length≤9:=Iz hd
  have hc: ¬u<128:=by have:=of_decide_eq_true hc;simp only at this;omega
  have ag:=Yt Unit acc hc
  unfold xL at ag;rw[show decide ((u:Int)≥128)=true from decide_eq_true (by omega),cond_true]at ag
  have aD:=congrArg (fun s=>match s with|Step.bM x=>x.1|_=>0) ag
  have bg:=congrArg (fun s=>match s with|Step.bM x=>x.2|_=>[]) ag
  simp only at aD bg;refine⟨⟨?_,?_⟩,?_,?_⟩
  ·show acc.length+1≤maxLen
   unfold maxLen;omega
  ·show(acc.length+1)*1≤_
   omega
  ·show ua (dw .shr .u64 (u:Int) 7,List.append acc [dw .or .u8 (IntKind.wrap .u8 (u:Int)) 128])
   rw[aD,bg];exact Yz hd hc
  ·show(dw .shr .u64 (u:Int) 7).toNat<(u:Int).toNat
   rw[aD];omega
 ·have av:=Iz hd
  refine⟨?_,?_⟩
  ·show d.2.length+1≤maxLen
   unfold maxLen;omega
  ·show(d.2.length+1)*1≤_
   omega
theorem YC{n:Int}(h:eO n):fZ n:=by
 have key: ∀v:Int,v=((gX n:Nat):Int)→∃(bq:(Int × (List Int))→Prop) (fO:(Int × (List Int))→Nat),bq (v,[])∧fO (v,[])<dt∧∀(d0:Int × (List Int)),bq d0→(
  ((decide (d0.1≥128))=true→(
   let v11:List Int:=([(IntKind.wrap .u8 ((IntKind.wrap .u8 (dw .rem .u64 d0.1 (128:Int)))+(128:Int)))]:List Int)
   (List.length d0.2+List.length v11≤maxLen∧(List.length d0.2+List.length v11)*1≤140737488355328)∧
   bq ((dw .quo .u64 d0.1 (128:Int)),(List.append d0.2 v11))∧fO ((dw .quo .u64 d0.1 (128:Int)),(List.append d0.2 v11))<fO d0))∧((decide (d0.1≥128))=false→(
   List.length d0.2+List.length ([IntKind.wrap .u8 d0.1]:List Int)≤maxLen∧(List.length d0.2+List.length ([IntKind.wrap .u8 d0.1]:List Int))*1≤140737488355328))):=by
   rintro v rfl
   refine⟨ua,fun d=>d.1.toNat,Yy (p0 h),?_,fun d hd=>⟨fun hc=>?_,fun hc=>?_⟩⟩
   ·have:=p0 h
    show(((gX n:Nat):Int)).toNat<dt;unfold dt;omega
   ·obtain⟨u,acc,rfl,hu⟩:=YA hd
    have av:acc.length≤9:=Iz hd
    have hc: ¬u<128:=by have:=of_decide_eq_true hc;simp only at this;omega
    have ag:=Yu Unit acc hc hu
    unfold xM at ag;rw[show decide ((u:Int)≥128)=true from decide_eq_true (by omega),cond_true]at ag
    have aD:=congrArg (fun s=>match s with|Step.bM x=>x.1|_=>0) ag
    have bg:=congrArg (fun s=>match s with|Step.bM x=>x.2|_=>[]) ag
    simp only at aD bg;refine⟨⟨?_,?_⟩,?_,?_⟩
    ·show acc.length+1≤maxLen
     unfold maxLen;omega
    ·show(acc.length+1)*1≤_
     omega
    ·show ua (dw .quo .u64 (u:Int) 128,List.append acc [IntKind.wrap .u8 (IntKind.wrap .u8 (dw .rem .u64 (u:Int) 128)+128)])
     rw[aD,bg];exact Yz hd hc
    ·show(dw .quo .u64 (u:Int) 128).toNat<(u:Int).toNat
     rw[aD];omega
   ·have av:=Iz hd
    refine⟨?_,?_⟩
    ·show d.2.length+1≤maxLen
     unfold maxLen;omega
    ·show(d.2.length+1)*1≤_
     omega
 have a6:=X8 h
 unfold fZ
 refine⟨fun hd=>?_,fun hd=>?_⟩
 ·rw[hd,cond_true]at a6
  exact key _ a6
 ·rw[hd,cond_false]at a6
  exact key _ a6
def rj(s:ByteArray):Prop:=s.size≤140737488351232
theorem rj.i64{s:ByteArray}(h:rj s):eO (s.size:Int):=by unfold rj at h;exact⟨by omega,by omega⟩
theorem zjt{s:ByteArray}(h:rj s):jv s=ja (gX s.size)++s:=by
 unfold jv
 rw[QF h.i64]
 rfl
theorem zju{s:ByteArray}(h:rj s):jw s=ja (gX s.size)++s:=by
 unfold jw
 rw[QG h.i64]
 rfl
theorem zjv{s:ByteArray}(h:rj s):nH s:=by
 refine⟨YB h.i64,?_⟩
 have:=QH (u:=gX s.size)
 rw[QF h.i64]
 unfold rj at h
 omega
theorem zjw{s:ByteArray}(h:rj s):ox s:=by
 refine⟨YC h.i64,?_⟩
 have:=QH (u:=gX s.size)
 rw[QG h.i64]
 unfold rj at h
 omega
end Go.aK
namespace Go.aK
open Go Go.fb
theorem XP(r:Rd)(n:Int):0≤(cH r n).1:=by
 unfold cH
 cases eh:((cL ((bx r).2)) != 0)with
 |true=>exact Int.le_refl _
 |false=>
  simp only[cond_false]
  cases ig:decide ((bx r).1<0)with
  |true=>exact Int.le_refl _
  |false=>
   simp only[cond_false]
   have ig:=of_decide_eq_false ig
   cases ld:decide ((bx r).1>(if 0>n then 0 else n))with
   |true=>exact Int.le_refl _
   |false=>
    simp only[cond_false];omega
theorem YD(v:dz):wv v=kQ v:=by
 unfold wv kQ iS
 dsimp only
 have:J9 v.n=DZ v.n:=rfl
 rw[this]
 cases (v.kind==0)<;>cases (v.kind==4)<;>cases (v.kind==1)<;>cases (v.kind==2)<;>cases (v.kind==3)<;>rfl
theorem Xf(v:dz):wy v=vM v:=by
 unfold wy vM iS
 dsimp only
 cases (v.kind==0)<;>cases (v.kind==4)<;>cases (v.kind==1)<;>cases (v.kind==2)<;>cases (v.kind==3)<;>rfl
theorem l9(r:Rd):fp r=(r,cL r):=by
 unfold fp cL
 cases r.made<;>rfl
theorem n7(r:bm):gk r=(r,dI r):=by
 unfold gk dI
 cases r.made<;>rfl
def cD(s:ByteArray):Prop:=s.size≤4611686018427387904
theorem Qd{s:ByteArray}{k:Nat}(h:k<s.size):s.data.toList[k]? =some (s.data.toList.getD k 0)∧m1 s (k:Int)=((s.data.toList.getD k 0).toNat:Int):=by
 have av:k<s.data.toList.length:=h
 refine⟨by rw[List.getD_eq_getElem?_getD,List.getElem?_eq_getElem av];rfl,?_⟩
 unfold m1
 rw[Int.toNat_natCast]
theorem YE{s:ByteArray}(h:cD s):Bo s=jZ s:=by
 unfold cD at h
 unfold Bo jZ AB
 dsimp only
 rw[Int.toNat_natCast,CD (b:=sz s) (fun _ _=>True) s.size (fun i v hi _=>⟨?_,fun _ _=>trivial⟩) s.size 0 0 (Nat.zero_add _) trivial]
 ·cases bJ (sz s) 0 s.size 0<;>rfl
 ·obtain⟨aD,bg⟩:=Qd hi
  unfold sz;dsimp only;rw[aD,bg];dsimp only
  have hw:IntKind.wrap .i64 ((i:Int)+1)=((i+1:Nat):Int):=by rw[iy _ (by omega) (by omega)];omega
  rw[hw];rfl
theorem gH{r:Rd}(h:cD r.rest):eg r=((bx r).2,(bx r).1):=by
 unfold eg bx
 rw[l9]
 dsimp only
 rw[YE h]
 cases (cL r != 0)with
 |true=>rfl
 |false=>
  simp only[cond_false]
  cases ((jZ r.rest).2.2 != 0)<;>rfl
theorem Qp{s:ByteArray}{a b:Nat}(h:cD s):cD (s.extract a b):=by
 unfold cD at h⊢
 rw[ByteArray.size_extract]
 omega
theorem eY{r:Rd}(h:cD r.rest):cD (bx r).2.rest:=by
 unfold bx
 simp only[cond_eq_ite]
 repeat' split
 all_goals first|exact h|exact Qp h
theorem sw{r:Rd}{n:Int}(h:cD r.rest):cD (cH r n).2.rest:=by
 have:=eY h
 unfold cH
 simp only[cond_eq_ite]
 repeat' split
 all_goals exact this
theorem Is{r:Rd}{n:Int}(h:cD r.rest):cD (iZ r n).2.rest:=by
 have:=sw (n:=n) h
 unfold iZ
 simp only[cond_eq_ite]
 repeat' split
 all_goals first|exact this|exact Qp this
theorem tW{r:Rd}{n:Int}(h:cD r.rest):gi r n=((cH r n).2,(cH r n).1):=by
 unfold gi cH
 rw[gH h]
 dsimp only
 rw[l9]
 simp only[cond_eq_ite]
 repeat' split
 all_goals first|rfl|(simp_all[fN.den])
theorem Ir{r:Rd}{n:Int}(h:cD r.rest):pc r n=((iZ r n).2,(iZ r n).1):=by
 unfold pc iZ
 rw[tW h]
 dsimp only
 rw[l9]
 simp only[cond_eq_ite]
 repeat' split
 all_goals rfl
theorem zjx(r:Rd)(e:Int):Fg r e=pX r e:=by
 unfold Fg pX
 rw[l9]
theorem YF(r:Rd):(⟨r.rest,r.err,r.made⟩:Rd)=r:=rfl
theorem XQ{r:Rd}(h:cD r.rest):Bq r=((mW r).2,(mW r).1):=by
 have ab:=eY h
 unfold Bq mW tY D0 xI
 rw[gH h]
 dsimp only
 rw[gH ab,Ir ab]
 simp only[l9,zjx,YD,YF]
 cases ((bx r).1==1)<;>cases ((bx r).1==2)<;>cases ((bx r).1==3)<;>cases ((bx r).1==4)<;>simp only[cond_true,cond_false,Bool.true_or,Bool.or_true,Bool.false_or,Bool.or_false,YF]<;>(cases (kQ _ != 0)<;>simp only[cond_true,cond_false]<;>(cases (cL _ != 0)<;>rfl))
theorem ziW(r:Rd):(Bx r).2=sy r:=by
 unfold Bx wx sy n3
 rw[l9]
 dsimp only
 cases (cL r != 0)<;>simp only[cond_true,cond_false]<;>rw[l9]<;>simp only[cond_eq_ite]<;>split<;>rfl
theorem fT{q:bm}(au:cT q):eb q=((bY q).2,(bY q).1):=by
 have lS:=au
 obtain⟨ab,ae,aw⟩:=au
 unfold eb bY Qw
 rw[n7]
 dsimp only
 cases (dI q != 0)with
 |true=>rfl
 |false=>
  simp only[cond_false]
  rw[show Int.toNat 10=10 from rfl,CD (b:=fun i v=>jA (fun x:Int × bK=>(x.2,x.1)) (pY q i v)) (fun _ _=>True) 10 (fun i v hi _=>⟨?_,fun _ _=>trivial⟩) 10 0 0 (Nat.zero_add _) trivial,
   wX (fun x:Int × bK=>(x.2,x.1)) (b:=pY q) (fun _ _=>rfl)]
  ·cases bJ (pY q) 0 10 0<;>rfl
  ·have br:IntKind.wrap .i64 (q.at_+(i:Int))=q.at_+(i:Int):=iy _ (by omega) (by omega)
   unfold pY;dsimp only
   cases hd:decide (IntKind.wrap .i64 (q.at_+(i:Int))≥(q.s.size:Int))with
   |true=>rfl
   |false=>
    have hd:=of_decide_eq_false hd
    rw[br]at hd;obtain⟨j,aj⟩: ∃j:Nat,q.at_+(i:Int)=(j:Int):=⟨(q.at_+i).toNat,by omega⟩
    obtain⟨aD,bg⟩:=Qd (s:=q.s) (k:=j) (by omega)
    simp only[cond_false];rw[br,aj,Int.toNat_natCast,aD,bg];dsimp only;show(bif _ then _ else bif _ then(bif _ then _ else _)else _)=jA _ (bif _ then _ else bif _ then _ else _)
    simp only[cond_eq_ite]
    split
    ·rfl
    ·split
     ·show(if _ then _ else _)=Step.ret (_,if _ then _ else _)
      have ag: ∀(c:Bool) (A:bm) (x y:Int),(if c=true then(Step.ret (A,x):Step (bm × Int) Int)else Step.ret (A,y))=Step.ret (A,if c=true then x else y):=fun c A x y=>by cases c<;>rfl
      exact ag _ _ _ _
     ·rfl
theorem Ax{q:bm}{n:Int}(au:cT q):gT q n=((da q n).2,(da q n).1):=by
 unfold gT da
 rw[fT au]
 dsimp only
 rw[n7]
 cases decide (n<0)<;>simp only[cond_true,cond_false]<;>simp only[cond_eq_ite]<;>(repeat' split)<;>rfl
theorem lf{q:bm}{n:Int}(au:cT q):gq q n=((ih q n).2,(ih q n).1):=by
 obtain⟨ab,ae,aw⟩:=tT (n:=n) au
 have hn:=Av q n
 unfold gq ih
 rw[Ax au]
 dsimp only
 rw[n7]
 dsimp only
 have br:IntKind.i64.wrap (((da q n).2.s.size:Int)-(da q n).2.at_)=((da q n).2.s.size:Int)-(da q n).2.at_:=iy _ (by omega) (by omega)
 rw[br]
 cases (dI (da q n).2 != 0)with
 |true=>rfl
 |false=>
  simp only[cond_false]
  cases hd:decide ((da q n).1>((da q n).2.s.size:Int)-(da q n).2.at_)with
  |true=>rfl
  |false=>
   have hd:=of_decide_eq_false hd
   have dV:IntKind.i64.wrap ((da q n).2.at_+(da q n).1)=(da q n).2.at_+(da q n).1:=iy _ (by omega) (by omega)
   simp only[cond_false];rw[dV];rfl
theorem zjy(q:bm)(e:Int):Fq q e=xJ q e:=by
 unfold Fq xJ
 rw[n7]
theorem YG(r:bm):(⟨r.s,r.at_,r.bad,r.made⟩:bm)=r:=rfl
theorem Xz{q:bm}(au:cT q):wz q=((rf q).2,(rf q).1):=by
 have ab:=eR au
 have ae:=iE (n:=60) ab
 unfold wz rf sl o1 vF n2 sm
 rw[fT au]
 dsimp only
 rw[lf ab]
 simp only[YG]
 rw[fT ab,fT ae]
 simp only[n7,zjy,Xf,YG]
 cases ((bY q).1==4)<;>simp only[cond_true,cond_false]<;>cases (decide ((bY q).1≥1)&&decide ((bY q).1≤3))<;>simp only[cond_true,cond_false]<;>(cases h5:(dI _==0)<;>simp only[cond_true,cond_false,Bool.true_and,Bool.false_and,bne_self_eq_false])<;>(repeat (cases (vM _ != 0)<;>simp only[cond_true,cond_false]))<;>(cases (dI _ != 0)<;>rfl)
end Go.aK
namespace Go.aK
open Go Go.fb
theorem zjz{s:ByteArray}(h:cD s):J8 s:=by
 unfold cD at h
 refine⟨⟨by omega,by omega⟩,fun i _=>i≤9,Nat.zero_le _,fun i d _ hi=>?_⟩
 have hi:i≤9:=hi
 intro v5 hc
 refine⟨?_,fun jI=>?_⟩
 ·show 0≤IntKind.wrap .i64 (7*(i:Int))
  rw[iy _ (by omega) (by omega)]
  omega
 ·have jI:=of_decide_eq_false jI
  show i+1≤9
  rcases Nat.lt_or_ge i 9 with hG|hG
  ·exact hG
  ·have:i=9:=by omega
   subst this;simp only[Bool.or_eq_false_iff,Bool.and_eq_false_iff]at hc
   rcases hc.2 with h|h
   ·exact absurd h (by decide)
   ·have:=of_decide_eq_false h
    omega
theorem zjA{s:ByteArray}(h:(jZ s).2.2=0):0≤(jZ s).2.1∧(jZ s).2.1≤(s.size:Int):=by
 obtain⟨u,t,ab,ae,aw,aM⟩:=QC (s:=s) (U:=(jZ s).1) (N:=(jZ s).2.1) (by rw[←h])
 rw[aw]
 have:=congrArg ByteArray.size ae
 rw[ByteArray.size_append]at this
 omega
theorem jr{r:Rd}(h:cD r.rest):iR r:=by
 unfold iR
 rw[l9]
 intro v1 _
 refine⟨zjz h,fun hc=>?_⟩
 have hc:=X2 hc
 rw[YE h]at hc⊢
 exact zjA hc
theorem It{r:Rd}{n:Int}(h:cD r.rest):m2 r n:=jr h
theorem DV{r:Rd}{n:Int}(h:cD r.rest):Bp r n:=by
 refine⟨It h,?_⟩
 rw[tW h]
 show(_ != 0)=false→_
 rw[l9]
 intro _ hd
 have hd:=of_decide_eq_false hd
 have hn:=XP r n
 have hd: ¬(cH r n).1>((cH r n).2.rest.size:Int):=hd
 exact⟨⟨hn,by omega⟩,hn,by omega⟩
theorem ziP{r:Rd}(h:cD r.rest):Fh r:=by
 have ab:=eY h
 unfold Fh
 rw[gH h]
 dsimp only
 refine⟨jr h,⟨fun _=>⟨fun _=>jr ab,fun _ _=>DV ab⟩,fun _=>⟨fun _=>⟨fun _=>jr ab,fun _ _=>DV ab⟩,fun _=>⟨fun _=>jr ab,fun _ _=>DV ab⟩⟩⟩⟩
theorem zjB{r:Rd}{e:Int}(h:cD r.rest):cD (pX r e).rest:=by
 unfold pX
 cases (cL r==0)<;>exact h
theorem Qn{r:Rd}(h:cD r.rest):cD (mW r).2.rest:=by
 have ab:=eY h
 have ae:cD (xI r).rest:=by
  unfold xI;simp only[cond_eq_ite]
  repeat' split
  ·exact eY ab
  ·exact Is ab
  ·exact ab
 have aw:cD (tY r).rest:=by
  unfold tY;simp only[cond_eq_ite]
  split
  ·exact zjB ae
  ·exact ae
 unfold mW
 simp only[cond_eq_ite]
 split<;>exact aw
theorem XE{s:ByteArray}(h:cD s):js (vL s) (Ay s):=by
 refine⟨⟨Int.le_refl _,by show(0:Int)≤s.size;omega,h⟩,?_⟩
 show(⟨s,0,true⟩:Rd)=⟨s.extract 0 s.size,0,true⟩
 rw[show s.extract 0 s.size=s from pT (by rw[xF];rfl)]
theorem jY{q:bm}(au:cT q):hO q:=by
 obtain⟨ab,ae,aw⟩:=au
 unfold hO
 rw[n7]
 intro v1 _
 refine⟨fun _ _=>True,trivial,fun i d hi _=>?_⟩
 have hi:i<10:=hi
 have br:IntKind.wrap .i64 (q.at_+(i:Int))=q.at_+(i:Int):=iy _ (by omega) (by omega)
 show decide (IntKind.wrap .i64 (q.at_+(i:Int))≥(q.s.size:Int))=false→(0≤IntKind.wrap .i64 (q.at_+(i:Int))∧IntKind.wrap .i64 (q.at_+(i:Int))<(q.s.size:Int))∧_
 rw[br]
 intro hd
 have hd:=of_decide_eq_false hd
 refine⟨⟨by omega,by omega⟩,fun _=>⟨?_,fun _=>trivial⟩⟩
 show 0≤IntKind.wrap .i64 (7*(i:Int))
 rw[iy _ (by omega) (by omega)]
 omega
theorem tU{q:bm}{n:Int}(au:cT q):qm q n:=jY au
theorem su{q:bm}{n:Int}(au:cT q):lT q n:=by
 obtain⟨ab,ae,aw⟩:=tT (n:=n) au
 have hn:=Av q n
 refine⟨tU au,?_⟩
 rw[Ax au]
 show(_ != 0)=false→_
 rw[n7]
 intro _ hd
 have br:IntKind.i64.wrap (((da q n).2.s.size:Int)-(da q n).2.at_)=((da q n).2.s.size:Int)-(da q n).2.at_:=iy _ (by omega) (by omega)
 have hd:decide ((da q n).1>IntKind.i64.wrap (((da q n).2.s.size:Int)-(da q n).2.at_))=false:=hd
 rw[br]at hd
 have hd:=of_decide_eq_false hd
 have dV:IntKind.i64.wrap ((da q n).2.at_+(da q n).1)=(da q n).2.at_+(da q n).1:=iy _ (by omega) (by omega)
 show 0≤(da q n).2.at_∧(da q n).2.at_≤IntKind.i64.wrap ((da q n).2.at_+(da q n).1)∧IntKind.i64.wrap ((da q n).2.at_+(da q n).1)≤((da q n).2.s.size:Int)
 rw[dV]
 omega
theorem ziD{q:bm}(au:cT q):By q:=by
 have ab:=eR au
 have ae:=iE (n:=60) ab
 unfold By
 rw[fT au]
 dsimp only
 refine⟨jY au,fun _=>⟨su ab,?_⟩,fun _ _=>jY ab⟩
 rw[lf ab]
 exact fun _=>jY ae
end Go.aK
namespace Go.aK
open Go Go.aK Go.fb
def bl{ρ α β:Type}(pU:ρ→α × ρ)(rh:α→ρ→β × ρ)(r:ρ):β × ρ:=rh (pU r).1 (pU r).2
def cQ{ρ α:Type}(a:α)(r:ρ):α × ρ:=(a,r)
def nn{α:Type}(R:Rd→α × Rd)(S:bK→α × bK):Prop:=∀r q,js r q→js (R r).2 (S q).2∧(cL (R r).2=0→(R r).1=(S q).1)
def hY{α:Type}(R:Rd→α × Rd):Prop:=∀r,cL r≠0→(R r).2=r
def jq{α:Type}(S:bK→α × bK):Prop:=∀q,dI q≠0→(S q).2=q
section
variable {α β:Type}
theorem xE.w{R:Rd→α × Rd}{S:bK→α × bK}(h:xE R S):nn R S:=fun r q ah=>⟨(h r q ah).2,fun _=>(h r q ah).1⟩
theorem nn.bl{pU:Rd→α × Rd}{aO:bK→α × bK}{rh:α→Rd→β × Rd}{dr:α→bK→β × bK}(ab:nn pU aO)(ae: ∀a,nn (rh a) (dr a))(k: ∀a,hY (rh a))(a8: ∀a,jq (dr a)):nn (bl pU rh) (bl aO dr):=fun r q ah=>by
 obtain⟨g1,g2⟩:=ab r q ah
 unfold aK.bl
 by_cases he:cL (pU r).2=0
 ·rw[g2 he]
  exact ae _ _ _ g1
 ·have jz:dI (aO q).2≠0:=by rw[←lL g1];exact he
  rw[k _ _ he,a8 _ _ jz];exact⟨g1,fun h=>absurd h he⟩
theorem hY.bl{pU:Rd→α × Rd}{rh:α→Rd→β × Rd}(ab:hY pU)(ae: ∀a,hY (rh a)):hY (bl pU rh):=fun r ah=>by
 unfold aK.bl
 rw[ab r ah,ae _ _ ah]
theorem jq.bl{aO:bK→α × bK}{dr:α→bK→β × bK}(ab:jq aO)(ae: ∀a,jq (dr a)):jq (bl aO dr):=fun q aG=>by
 unfold aK.bl
 rw[ab q aG,ae _ _ aG]
theorem nn.cQ(a:α):nn (cQ a) (cQ a):=fun _ _ ah=>⟨ah,fun _=>rfl⟩
theorem hY.cQ(a:α):hY (cQ a):=fun _ _=>rfl
theorem jq.cQ(a:α):jq (cQ a):=fun _ _=>rfl
def lg(R:Rd→α × Rd):Nat→List α→Rd→List α × Rd
 |0,l,r=>(l,r)
 |n+1,l,r=>bif cL (R r).2 != 0 then([],(R r).2)else lg R n (l++[(R r).1]) (R r).2
def n8(S:bK→α × bK):Nat→List α→bK→List α × bK
 |0,l,q=>(l,q)
 |n+1,l,q=>bif dI q==0 then n8 S n (l++[(S q).1]) (S q).2 else(l,q)
theorem YH{S:bK→α × bK}{q:bK}(h:dI q≠0): ∀n l,n8 S n l q=(l,q)
 |0,_=>rfl
 |n+1,l=>by
  have:(dI q==0)=false:=by simpa using h
  simp only[n8,this,cond_false]
theorem YI{R:Rd→α × Rd}{S:bK→α × bK}(h:nn R S): ∀(n:Nat) (l:List α) (r:Rd) (q:bK),js r q→cL r=0→js (lg R n l r).2 (n8 S n l q).2∧(cL (lg R n l r).2=0→(lg R n l r).1=(n8 S n l q).1)
 |0,l,r,q,ah,_=>⟨ah,fun _=>rfl⟩
 |n+1,l,r,q,ah,he=>by
  obtain⟨g1,g2⟩:=h r q ah
  have jz:dI q=0:=by rw[←lL ah];exact he
  simp only[lg,n8,jz,beq_self_eq_true,cond_true]
  by_cases ab:cL (R r).2=0
  ·simp only[ab,bne_self_eq_false,cond_false]
   rw[g2 ab];exact YI h n _ _ _ g1 ab
  ·have ae:dI (S q).2≠0:=by rw[←lL g1];exact ab
   have aw:(cL (R r).2 != 0)=true:=by simpa using ab
   simp only[aw,cond_true];rw[YH ae];exact⟨g1,fun h=>absurd h ab⟩
def lM(m:Int)(R:Rd→α × Rd):Rd→List α × Rd:=bl (fun r=>cH r m) fun n r=>lg R n.toNat [] r
def fB(m:Int)(S:bK→α × bK):bK→List α × bK:=bl (fun q=>da q m) fun n q=>n8 S n.toNat [] q
theorem QI{R:Rd→α × Rd}(h:hY R)(n:Nat)(l:List α):hY (lg R n l):=fun r ah=>by
 cases n with
 |zero=>rfl
 |succ n=>
  have ab:(cL (R r).2 != 0)=true:=by rw[h r ah];simpa using ah
  simp only[lg,ab,cond_true];exact h r ah
theorem QJ{S:bK→α × bK}(n:Nat)(l:List α):jq (n8 S n l):=fun q aG=>by rw[YH aG]
theorem zjC{R:Rd→α × Rd}{S:bK→α × bK}(h:nn R S)(k:hY R)(n:Nat)(l:List α):nn (lg R n l) (n8 S n l):=fun r q ah=>by
 by_cases he:cL r=0
 ·exact YI h n l r q ah he
 ·have jz:dI q≠0:=by rw[←lL ah];exact he
  rw[QI k n l r he,QJ n l q jz];exact⟨ah,fun h=>absurd h he⟩
theorem hY.int:hY bx:=fun r h=>by rw[AE h]
theorem jq.int:jq bY:=fun r h=>by rw[Aq h]
theorem hY.count(n:Int):hY (fun r=>cH r n):=fun r h=>by show(cH r n).2=r;rw[P5 n h]
theorem jq.count(n:Int):jq (fun q=>da q n):=fun r h=>by show(da r n).2=r;rw[P6 n h]
theorem hY.text(n:Int):hY (fun r=>iZ r n):=fun r h=>by show(iZ r n).2=r;rw[zjd n h]
theorem jq.text(n:Int):jq (fun q=>ih q n):=fun r h=>by show(ih r n).2=r;rw[zjm n h]
theorem ziw{R:Rd→α × Rd}(h:hY R)(m:Int):hY (lM m R):=hY.bl (hY.count m) fun n=>QI h _ _
theorem zix{S:bK→α × bK}(m:Int):jq (fB m S):=jq.bl (jq.count m) fun n=>QJ _ _
theorem ziv{R:Rd→α × Rd}{S:bK→α × bK}(h:nn R S)(k:hY R)(m:Int):nn (lM m R) (fB m S):=
 nn.bl (QE m).w (fun n=>zjC h k _ _) (fun n=>QI k _ _) fun n=>QJ _ _
end
end Go.aK
namespace Go.aK
open Go Go.aK Go.fb
def drain:Nat→Rd→Rd
 |0,r=>r
 |k+1,r=>bif cL r==0 then drain k (bx r).2 else r
def ij:Nat→List Int→Rd→List Int × Rd
 |0,l,r=>(l,r)
 |n+1,l,r=>ij n (l++[(bx r).1]) (bx r).2
def mK:Nat→List Int→bK→List Int × bK
 |0,l,q=>(l,q)
 |n+1,l,q=>bif dI (bY q).2 != 0 then([],(bY q).2)else mK n (l++[(bY q).1]) (bY q).2
def pV(F:Nat)(m:Int)(r:Rd):List Int × Rd:=
 bif decide ((cH r m).1>n3 (cH r m).2)then([],drain F (cH r m).2)
 else bif cL (ij (cH r m).1.toNat [] (cH r m).2).2 != 0 then([],(ij (cH r m).1.toNat [] (cH r m).2).2)
 else ij (cH r m).1.toNat [] (cH r m).2
def n4(m:Int)(q:bK):List Int × bK:=mK (da q m).1.toNat [] (da q m).2
theorem zjD{r:Rd}(h:cL r≠0): ∀k,drain k r=r
 |0=>rfl
 |k+1=>by
  have:(cL r==0)=false:=by simpa using h
  simp only[drain,this,cond_false]
theorem XY{r:Rd}(h:cL (bx r).2=0):(bx r).2.rest.size+1≤r.rest.size:=by
 obtain⟨a,t,aD,ab,iP⟩:=zjc.dec r h
 rw[iP,aD]
 show t.size+1≤(Iw a++t).size
 rw[ByteArray.size_append,Qy ab,D1]
 have:=Yf 9 (gX a)
 omega
theorem ziA{q:bK}(h:dI q≠0): ∀(n:Nat) (l:List Int),(mK n l q).2=q
 |0,_=>rfl
 |n+1,l=>by
  have ab:(dI (bY q).2 != 0)=true:=by rw[Aq h];simpa using h
  simp only[mK,ab,cond_true];rw[Aq h]
theorem YJ: ∀(n F:Nat) (l:List Int) (r:Rd) (q:bK),js r q→cL r=0→r.rest.size<n→r.rest.size<F→js (drain F r) (mK n l q).2∧(mK n l q).1=[]
 |0,_,_,_,_,_,_,h,_=>absurd h (Nat.not_lt_zero _)
 |n+1,0,_,_,_,_,_,_,h=>absurd h (Nat.not_lt_zero _)
 |n+1,F+1,l,r,q,ah,he,ab,ae=>by
  obtain⟨g1,g2⟩:=Ar r q ah
  have aD:(cL r==0)=true:=by simpa using he
  simp only[drain,aD,cond_true,mK]
  by_cases aw:cL (bx r).2=0
  ·have aM:(dI (bY q).2 != 0)=false:=by rw[←lL g2];simpa using aw
   simp only[aM,cond_false]
   have:=XY aw
   exact YJ n F _ _ _ g2 aw (by omega) (by omega)
  ·have aM:(dI (bY q).2 != 0)=true:=by rw[←lL g2];simpa using aw
   simp only[aM,cond_true];rw[zjD aw];exact⟨g2,by first|trivial|rfl⟩
theorem YK{r:Rd}(h:cL r≠0): ∀(n:Nat) (l:List Int),(ij n l r).2=r
 |0,_=>rfl
 |n+1,l=>by
  simp only[ij,AE h];exact YK h n _
theorem YL: ∀(n:Nat) (l:List Int) (r:Rd) (q:bK),js r q→cL r=0→js (ij n l r).2 (mK n l q).2∧(cL (ij n l r).2=0→(ij n l r).1=(mK n l q).1)∧(cL (ij n l r).2≠0→(mK n l q).1=[])
 |0,l,r,q,ah,he=>⟨ah,fun _=>rfl,fun h=>absurd he h⟩
 |n+1,l,r,q,ah,he=>by
  obtain⟨g1,g2⟩:=Ar r q ah;simp only[ij,mK]
  by_cases aw:cL (bx r).2=0
  ·have aM:(dI (bY q).2 != 0)=false:=by rw[←lL g2];simpa using aw
   simp only[aM,cond_false];rw[g1];exact YL n _ _ _ g2 aw
  ·have aM:(dI (bY q).2 != 0)=true:=by rw[←lL g2];simpa using aw
   simp only[aM,cond_true];rw[YK aw];exact⟨g2,fun h=>absurd h aw,fun _=>by first|trivial|rfl⟩
theorem ziz{F:Nat}(m:Int): ∀r q,js r q→r.rest.size<F→(pV F m r).1=(n4 m q).1∧js (pV F m r).2 (n4 m q).2:=fun r q ah hF=>by
 obtain⟨g1,g2⟩:=QE m r q ah
 unfold pV n4
 have g1:(cH r m).1=(da q m).1:=g1
 have g2:js (cH r m).2 (da q m).2:=g2
 rw[←g1]
 have bT:(cH r m).2.rest.size≤r.rest.size:=by
  have hi:(bx r).2.rest.size≤r.rest.size:=by
   unfold bx
   cases ag:cL r != 0
   ·simp only[cond_false]
    cases hc:(jZ r.rest).2.2 != 0
    ·simp only[cond_false]
     rw[ByteArray.size_extract];omega
    ·exact Nat.le_refl _
   ·exact Nat.le_refl _
  unfold cH
  cases cL (bx r).2 != 0 with
  |true=>exact hi
  |false=>
   simp only[cond_false]
   cases decide ((bx r).1<0)with
   |true=>exact hi
   |false=>
    simp only[cond_false]
    cases decide ((bx r).1>(if 0>m then 0 else m))<;>exact hi
 by_cases he:cL (cH r m).2=0
 ·have av:n3 (cH r m).2=(((cH r m).2.rest.size:Nat):Int):=by
   unfold n3;simp[he]
  by_cases hn:(cH r m).1>n3 (cH r m).2
  ·simp only[decide_eq_true hn,cond_true]
   rw[av]at hn;obtain⟨dp,di⟩:=YJ (cH r m).1.toNat F [] _ _ g2 he (by omega) (by omega)
   exact⟨di.symm,dp⟩
  ·simp only[decide_eq_false hn,cond_false]
   obtain⟨dp,di,hN⟩:=YL (cH r m).1.toNat [] _ _ g2 he
   by_cases bn:cL (ij (cH r m).1.toNat [] (cH r m).2).2=0
   ·have cl:(cL (ij (cH r m).1.toNat [] (cH r m).2).2 != 0)=false:=by simpa using bn
    simp only[cl,cond_false];exact⟨di bn,dp⟩
   ·have cl:(cL (ij (cH r m).1.toNat [] (cH r m).2).2 != 0)=true:=by simpa using bn
    simp only[cl,cond_true];exact⟨(hN bn).symm,dp⟩
 ·have aS:(cH r m).1=0:=by
   unfold cH at he⊢
   cases ab:cL (bx r).2 != 0 with
   |true=>rfl
   |false=>
    simp only[ab,cond_false]at he⊢
    cases ae:decide ((bx r).1<0)with
    |true=>rfl
    |false=>
     simp only[ae,cond_false]at he⊢
     cases aw:decide ((bx r).1>(if 0>m then 0 else m))with
     |true=>rfl
     |false=>
      simp only[aw,cond_false]at he;exact absurd (by simpa using ab) he
  have av:n3 (cH r m).2=0:=by
   unfold n3
   have:(cL (cH r m).2 != 0)=true:=by simpa using he
   simp[this]
  rw[aS,av]
  have cl:(cL (ij (Int.toNat 0) [] (cH r m).2).2 != 0)=true:=by
   show(cL (cH r m).2 != 0)=true;simpa using he
  simp only[Int.lt_irrefl,gt_iff_lt,decide_false,cond_false,cl,cond_true];exact⟨rfl,g2⟩
end Go.aK
namespace Go.aK
open Go Go.aK Go.fb
def sj(f:Nat→ByteArray):Nat→Nat→ByteArray
 |_,0=>⟨#[]⟩
 |k,n+1=>f k++sj f (k+1) n
theorem zjE(l m:List Int):bytesOf (l++m)=bytesOf l++bytesOf m:=pT (by
 rw[vB,ByteArray.data_append,Array.toList_append,vB,vB,List.map_append])
theorem PW(l:List Int)(a:ByteArray):bytesOf (l++cB.den .dk a)=bytesOf l++a:=by
 rw[zjE]
 congr 1
 exact pT (by
  rw[vB];show(List.map (fun u:UInt8=>(u.toNat:Int)) a.data.toList).map _=_;rw[List.map_map]
  conv=>rhs;rw[←List.map_id a.data.toList]
  exact List.map_congr_left fun u _=>by simp)
theorem Xj{R:Type}{f:Nat→ByteArray}{b:Nat→List Int→Step R (List Int)}: ∀(n k:Nat) (a:List Int),(∀i a,k≤i→i<k+n→b i a= .bM (a++cB.den .dk (f i)))→∃l,bJ b k n a= .inr l∧bytesOf l=bytesOf a++sj f k n
 |0,k,a,_=>⟨a,rfl,ByteArray.append_empty.symm⟩
 |n+1,k,a,h=>by
  obtain⟨l,ab,ae⟩:=Xj n (k+1) (a++cB.den .dk (f k)) fun i a ab ae=>h i a (by omega) (by omega)
  refine⟨l,?_,?_⟩
  ·simp only[bJ,h k a (Nat.le_refl _) (by omega)]
   exact ab
  ·rw[ae,PW,ByteArray.append_assoc]
   rfl
theorem P2{R:Type}{f:Nat→ByteArray}{b:Nat→ByteArray→Step R ByteArray}: ∀(n k:Nat) (a:ByteArray),(∀i a,k≤i→i<k+n→b i a= .bM (a++f i))→bJ b k n a= .inr (a++sj f k n)
 |0,k,a,_=>by
  show Sum.inr a=Sum.inr (a++ByteArray.empty);rw[ByteArray.append_empty]
 |n+1,k,a,h=>by
  simp only[bJ,h k a (Nat.le_refl _) (by omega)]
  rw[P2 n (k+1) (a++f k) fun i a ab ae=>h i a (by omega) (by omega),ByteArray.append_assoc]
  rfl
end Go.aK
namespace Go.aK
open Go Go.aK Go.fb
def hq(n:Int):ByteArray:=ja (gX n)
def lJ(s:ByteArray):ByteArray:=hq s.size++s
theorem dH(n:Int):(hq n).size≤10:=QH
theorem YM(s:ByteArray):(lJ s).size≤10+s.size:=by
 unfold lJ
 rw[ByteArray.size_append]
 have:=dH (s.size:Int)
 omega
structure bN {α:Type} (V:α→Prop) (m:α→ByteArray) (p:α→Prop) (e:α→ByteArray) (C:Nat):Prop where
 eq: ∀{x:α},V x→m x=e x
 ok: ∀{x:α},V x→p x
 pG: ∀{x:α},V x→(e x).size≤C
def iv(s:ByteArray):Prop:=s.size≤1048576
theorem iv.pG{s:ByteArray}(h:iv s):rj s:=by unfold iv at h;unfold rj;omega
theorem bN.int:bN eO dh fP hq 10:=⟨fun h=>QF h,fun h=>YB h,fun _=>dH _⟩
theorem bO.int:bN eO dx fZ hq 10:=⟨fun h=>QG h,fun h=>YC h,fun _=>dH _⟩
theorem jn{s:ByteArray}(h:iv s):(lJ s).size≤1048586:=by
 have:=YM s
 unfold iv at h
 omega
theorem bN.text:bN iv jv nH lJ 1048586:=⟨fun h=>zjt h.pG,fun h=>zjv h.pG,fun h=>jn h⟩
theorem bO.text:bN iv jw ox lJ 1048586:=⟨fun h=>zju h.pG,fun h=>zjw h.pG,fun h=>jn h⟩
def PU(v:dz):Prop:=eO v.kind∧eO v.n∧iv v.s
def re(v:dz):ByteArray:=if kQ v=0 then(if v.kind=0 then hq 0 else if v.kind=4 then hq v.kind++lJ v.s else hq v.kind++hq v.n)else hq 0
theorem si:eO 0:=⟨by omega,by omega⟩
theorem DL(v:dz):(re v).size≤80:=by
 unfold re
 have ab:=dH v.kind
 have ae:=dH v.n
 have aw:=YM v.s
 have aS:=dH 0
 split
 ·rename_i h
  have:=Yo h
  split
  ·omega
  ·split<;>rw[ByteArray.size_append]<;>omega
 ·omega
theorem bN.val:bN PU wE Fu re 80:=by
 refine⟨fun {v} ⟨ab,ae,aw⟩=>?_,fun {v} ⟨ab,ae,aw⟩=>?_,fun _=>DL _⟩
 ·unfold wE re
  rw[YD]
  by_cases aT:kQ v=0
  ·rw[if_pos aT,aT]
   rcases Xh aT with⟨k,_,_⟩|⟨k,_,_⟩|⟨k,_,_⟩
   ·simp only[k]
    exact bN.int.eq si
   ·have an:v.kind≠0∧v.kind≠4:=by omega
    rw[if_neg an.1,if_neg an.2,←bN.int.eq ab,←bN.int.eq ae]
    rcases k with k|k|k<;>rw[k]<;>rfl
   ·rw[k,if_neg (by decide),if_pos rfl,←bN.text.eq aw,←bN.int.eq (x:=4) ⟨by omega,by omega⟩]
    rfl
  ·rw[if_neg aT,show(kQ v != 0)=true by simpa using aT,←bN.int.eq si]
   rfl
 ·have zkz: ∀k:Int,0≤k→k≤4→eO k:=fun k a b=>⟨by omega,by omega⟩
  unfold Fu;dsimp only
  have key: ∀(k n:Int) (s:ByteArray),eO k→eO n→iv s→(fP k)∧(∀b:Bool,(b=true→((fP n)∧(dh k).size+(dh n).size≤9223372036854775807))∧(b=false→((k==4)=true→((nH s)∧(dh k).size+(jv s).size≤9223372036854775807)))):=fun k n s a b c=>by
   have s1:=dH k
   have s2:=dH n
   have iQ:=jn c
   rw[bN.int.eq a,bN.int.eq b,bN.text.eq c];exact⟨bN.int.ok a,fun gR=>⟨fun _=>⟨bN.int.ok b,by omega⟩,fun _ _=>⟨bN.text.ok c,by omega⟩⟩⟩
  refine⟨fun _=>?_,fun _=>?_⟩
  ·have:=key 0 0 ⟨#[]⟩ si si (Nat.zero_le _)
   exact⟨this.1,fun _=>this.2 _,fun _=>⟨fun _=>this.2 _,fun _=>this.2 _⟩⟩
  ·have:=key v.kind v.n v.s ab ae aw
   exact⟨this.1,fun _=>this.2 _,fun _=>⟨fun _=>this.2 _,fun _=>this.2 _⟩⟩
end Go.aK
