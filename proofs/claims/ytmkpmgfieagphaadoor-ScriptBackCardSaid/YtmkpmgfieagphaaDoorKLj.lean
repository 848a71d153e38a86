/- Numbers, texts, values, readers: the spec functions. Conditions: none. -/
import Derived.Test.YtmkpmgfieagphaaDoorKTEk
import Derived.Laws.RangeString
import Derived.Laws.RangeAny
import Derived.Laws.BitsAllLaws
import Derived.Laws.DeepNot64
import Derived.Test.YtmkpmgfieagphaaDoorKPm
import Derived.Test.YtmkpmgfieagphaaDoorKPg
namespace Go.aG
open Go Go.aG Go.du
def re(s:ByteArray)(sP:Nat)(yh:Int):Step (Int × Int × Int) (Int):=
 match yh with
 |(BP)=>(match(s.data.toList)[sP]? with|some vc=>(bif((decide ((sP:Int)>0)&&((vc.toNat:Int)==0))||(((sP:Int)==9)&&decide ((vc.toNat:Int)>1)))then .ret (0,0,4)else(bif decide ((vc.toNat:Int)<128)then .ret (l6 .u64 BP (IntKind.u64.wrap ((IntKind.u64.wrap (mE .u8 (vc.toNat:Int) 127))*2^(min (IntKind.i64.wrap (7*(sP:Int))).toNat 64))),((sP+1:Nat):Int),0)else .bP (l6 .u64 BP (IntKind.u64.wrap ((IntKind.u64.wrap (mE .u8 (vc.toNat:Int) 127))*2^(min (IntKind.i64.wrap (7*(sP:Int))).toNat 64))))))|none=>.bP yh)
def BQ(s:ByteArray)(yh:Int):(Int × Int × Int)⊕(Int):=bS (re s) 0 s.size yh
def ko(s:ByteArray):Int × Int × Int:=
 (match(BQ s (0))with| .inl Pp=>Pp| .inr (BP)=>(0,0,5))
def kp(r:Rd):(Int):=
 (bif !r.made then 15 else r.err)
def cR(r:Rd):(Int × Rd):=
 (bif((kp r) != 0)then(0,r)else(bif((((ko r.rest).2).2) != 0)then(0,(⟨r.rest,(((ko r.rest).2).2),r.made⟩:Rd))else(nU .i64 (IntKind.i64.wrap (((ko r.rest).1).fdiv 2)) (IntKind.i64.wrap (0-IntKind.i64.wrap (mE .u64 ((ko r.rest).1) 1))),(⟨r.rest.extract ((((ko r.rest).2).1).toNat) r.rest.size,r.err,r.made⟩:Rd))))
def gT(r:Rd)(n:Int):(Int × Rd):=
 (bif((kp ((cR r).2)) != 0)then(0,((cR r).2))else(bif decide ((cR r).1<0)then(0,(⟨((cR r).2).rest,4,((cR r).2).made⟩:Rd))else(bif decide ((cR r).1>(if 0>n then 0 else n))then(0,(⟨((cR r).2).rest,3,((cR r).2).made⟩:Rd))else((cR r).1,((cR r).2)))))
def jZ(r:Rd)(n:Int):(ByteArray × Rd):=
 (bif((kp ((gT r n).2)) != 0)then(⟨#[]⟩,((gT r n).2))else(bif decide ((gT r n).1>(((((gT r n).2).rest).size:Nat):Int))then(⟨#[]⟩,(⟨((gT r n).2).rest,5,((gT r n).2).made⟩:Rd))else((((gT r n).2).rest).extract 0 (((gT r n).1).toNat),(⟨(((gT r n).2).rest).extract (((gT r n).1).toNat) (((gT r n).2).rest).size,((gT r n).2).err,((gT r n).2).made⟩:Rd))))
def vd(r:Rd)(e:Int):(Rd):=
 (bif((kp r)==0)then(⟨r.rest,e,r.made⟩:Rd)else r)
def H2(r:Rd):(Int):=
 (bif((kp r) != 0)then 0 else(r.rest.size:Int))
def sQ(r:Rd):(Int):=
 (bif decide ((H2 r)>0)then 23 else(kp r))
def yi(n:Int):Bool:=
 (decide (n≥ -1099511627776)&&decide (n≤1099511627776))
def mF(v:cr):Int:=
 (bif(((v.kind==0)||(v.kind==4))||((v.kind==1)||((v.kind==2)||(v.kind==3))))then(bif !(bif((v.kind==0)||(v.kind==4))then(v.n==0)else(bif(v.kind==1)then((v.n==0)||(v.n==1))else(bif(v.kind==2)then yi v.n else(decide (v.n≥0)&&decide (v.n≤63)))))then 2 else(bif decide ((v.s.size:Int)>60)then 3 else(bif(!bR v.s (⟨#[]⟩)&&(v.kind != 4))then 4 else 0)))else 7)
def ve(r:Rd):cr:=(bif(((cR r).1==1)||(((cR r).1==2)||((cR r).1==3)))then(⟨(cR r).1,(cR ((cR r).2)).1,⟨#[]⟩⟩:cr)else(bif((cR r).1==4)then(⟨(cR r).1,0,(jZ ((cR r).2) 60).1⟩:cr)else(⟨(cR r).1,0,⟨#[]⟩⟩:cr)))
def vf(r:Rd):Rd:=(bif(((cR r).1==1)||(((cR r).1==2)||((cR r).1==3)))then((cR ((cR r).2)).2)else(bif((cR r).1==4)then((jZ ((cR r).2) 60).2)else((cR r).2)))
def sR(r:Rd):Rd:=(bif(mF (ve r) != 0)then(vd (vf r) 4)else(vf r))
def pU(r:Rd):(cr × Rd):=
 (bif((kp (sR r)) != 0)then((⟨0,0,⟨#[]⟩⟩:cr),(sR r))else((ve r),(sR r)))
def Pq(s:ByteArray):Rd:=(⟨s,0,true⟩:Rd)
open Classical in
theorem H3{a:Int}(h:(a != 0)=false):a=0:=by simpa using h
end Go.aG
namespace Go.aG
open Go Go.aG Go.du
def j0:Nat→Nat→List Nat
 |0,u=>[u]
 |f+1,u=>if u<128 then[u]else(u%128+128)::j0 f (u/ 128)
def j1(n:Int):Nat:=if 0≤n then(2*n).toNat else(-2*n-1).toNat
def dK(n:Int):Prop:= -9223372036854775808≤n∧n<9223372036854775808
theorem vg{n:Int}(h:dK n):j1 n<18446744073709551616:=by
 unfold dK at h
 unfold j1
 split<;>omega
theorem vh(n:Int):IntKind.u64.wrap n=n%18446744073709551616:=by simp[IntKind.wrap,IntKind.bits,IntKind.signed]
theorem H4(a b:Nat)(aI:a<18446744073709551616)(ad:b<18446744073709551616):nU .u64 (a:Int) (b:Int)=((a ^^^ b:Nat):Int):=u64_xor_nat a b aI ad
theorem Pr(a b:Nat)(aI:a<18446744073709551616)(ad:b<18446744073709551616):l6 .u64 (a:Int) (b:Int)=((a ||| b:Nat):Int):=u64_or_nat a b aI ad
theorem Ps(a b:Nat)(aI:a<256)(ad:b<256):l6 .u8 (a:Int) (b:Int)=((a ||| b:Nat):Int):=u8_or_nat a b aI ad
theorem Pt(a b:Nat)(aI:a<256)(ad:b<256):mE .u8 (a:Int) (b:Int)=((a &&& b:Nat):Int):=u8_and_nat a b aI ad
theorem Pu(a:Nat)(aI:a<18446744073709551616):a ^^^ 18446744073709551615=18446744073709551615-a:=by
 have h:(BitVec.ofNat 64 a ^^^ BitVec.allOnes 64)= ~~~(BitVec.ofNat 64 a):=by rw[BitVec.xor_allOnes]
 have af:=congrArg BitVec.toNat h
 rw[BitVec.toNat_not,BitVec.toNat_xor,BitVec.toNat_ofNat,BitVec.toNat_allOnes,Nat.mod_eq_of_lt aI]at af
 exact af
theorem Pv{n:Int}(h:dK n):nU .u64 (IntKind.u64.wrap (IntKind.u64.wrap n*2)) (IntKind.u64.wrap (n.fdiv 9223372036854775808))=((j1 n:Nat):Int):=by
 obtain⟨aa,af⟩:=h
 rw[vh,vh,vh,Int.fdiv_eq_ediv_of_nonneg _ (by decide)]
 by_cases hn:0≤n
 ·have aC:n%18446744073709551616*2%18446744073709551616=((j1 n:Nat):Int):=by unfold j1;rw[if_pos hn];omega
  have a6:n/ 9223372036854775808%18446744073709551616=((0:Nat):Int):=by omega
  rw[aC,a6,H4 _ _ (vg ⟨aa,af⟩) (by decide),Nat.xor_zero]
 ·have aC:n%18446744073709551616*2%18446744073709551616=((18446744073709551615-j1 n:Nat):Int):=by unfold j1;rw[if_neg hn];omega
  have a6:n/ 9223372036854775808%18446744073709551616=((18446744073709551615:Nat):Int):=by omega
  have bl:=vg ⟨aa,af⟩
  rw[aC,a6,H4 _ _ (by omega) (by decide),Pu _ (by omega)]
  omega
theorem Pw: ∀a,a<256→a ||| 128=a%128+128:=by decide+kernel
theorem Px(u:Nat):l6 .u8 (IntKind.u8.wrap (u:Int)) 128=((u%128+128:Nat):Int):=by
 have e:IntKind.u8.wrap (u:Int)=((u%256:Nat):Int):=by rw[IntKind.wrap_u8'];omega
 rw[e,show(128:Int)=((128:Nat):Int)from rfl,Ps _ _ (by omega) (by decide),Pw _ (by omega)]
 omega
theorem H5{R A:Type}{b:A→Step R A}{f:Nat}{x y:A}(h:b x= .b9 y):b3 b (f+1) x= .inr y:=by
 unfold b3
 rw[h]
theorem H6{R A:Type}{b:A→Step R A}{f:Nat}{x y:A}(h:b x= .bP y):b3 b (f+1) x=b3 b f y:=by
 conv=>lhs;unfold b3
 rw[h]
def mG(u:Nat):ByteArray:=bytesOf ((j0 9 u).map fun b:Nat=>(b:Int))
theorem H7: ∀(l:List Int) (s:ByteArray),(l.foldl (fun r n=>r.push (UInt8.ofNat n.toNat)) s).data.toList=s.data.toList++l.map fun n=>UInt8.ofNat n.toNat
 |[],s=>by simp
 |n::l,s=>by
  rw[List.foldl_cons,H7 l,ByteArray.data_push,Array.toList_push,List.map_cons,List.append_assoc,List.singleton_append]
theorem sS(l:List Int):(bytesOf l).data.toList=l.map fun n=>UInt8.ofNat n.toNat:=by
 unfold bytesOf
 rw[H7]
 rfl
theorem vi(l:List Int):(bytesOf l).size=l.length:=by
 have h:=congrArg List.length (sS l)
 rw[List.length_map,Array.length_toList]at h
 exact h
theorem mH{a b:ByteArray}(h:a.data.toList=b.data.toList):a=b:=ByteArray.ext (Array.toList_inj.1 h)
def vj(l:List Nat):List UInt8:=l.map UInt8.ofNat
theorem Py(u:Nat):(mG u).data.toList=vj (j0 9 u):=by
 unfold mG vj
 rw[sS,List.map_map]
 rfl
theorem Pz(f u:Nat):(j0 f u).length≤f+1:=by
 induction f generalizing u with
 |zero=>exact Nat.le_refl _
 |succ f aO=>
  unfold j0
  split
  ·simp
  ·have:=aO (u/ 128)
   simp only[List.length_cons];omega
theorem H8(u:Nat):(mG u).size=(j0 9 u).length:=by
 unfold mG
 rw[vi,List.length_map]
theorem BR(k:Nat):128^k=2^(7*k):=by rw[Nat.pow_mul]
theorem PA{k acc c:Nat}(aj:k≤9)(hc:c<256)(aI:acc<128^k)(hd:c%128*128^k<18446744073709551616):
 l6 .u64 (acc:Int) (IntKind.u64.wrap ((IntKind.u64.wrap (mE .u8 (c:Int) 127))*2^(min (IntKind.i64.wrap (7*(k:Int))).toNat 64)))=((acc+c%128*128^k:Nat):Int):=by
 have aC:mE .u8 (c:Int) 127=((c%128:Nat):Int):=by
  rw[show(127:Int)=((127:Nat):Int)from rfl,Pt _ _ hc (by decide),nat_mask7]
 have a6:min (IntKind.i64.wrap (7*(k:Int))).toNat 64=7*k:=by
  rw[eM _ (by omega) (by omega)]
  omega
 have ck:IntKind.u64.wrap ((c%128:Nat):Int)=((c%128:Nat):Int):=by rw[vh];omega
 have eT:(((c%128:Nat):Int)*2^(7*k))=((c%128*128^k:Nat):Int):=by
  rw[BR];push_cast;rfl
 have ak:128^k≤128^9:=Nat.pow_le_pow_right (by decide) aj
 rw[aC,a6,ck,eT,vh]
 have rf:((c%128*128^k:Nat):Int)%18446744073709551616=((c%128*128^k:Nat):Int):=by omega
 rw[rf,Pr _ _ (by(have:(128:Nat)^9=9223372036854775808:=(by decide));omega) hd]
 rw[Nat.or_comm,nat_join (7*k) _ _ (by rw[BR];exact Nat.mul_mod_left _ _) (by rw[←BR];exact aI),Nat.add_comm]
theorem H9(e:UInt8):e.toNat<256:=e.toNat_lt
theorem PB{s:ByteArray}{k:Nat}{e:UInt8}{acc:Nat}(he:s.data.toList[k]? =some e)(aj:k≤9)(aI:acc<128^k):re s k (acc:Int)=
 if(0<k∧e.toNat=0)∨(k=9∧1<e.toNat)then .ret (0,0,4)else if e.toNat<128 then .ret (((acc+e.toNat%128*128^k:Nat):Int),((k+1:Nat):Int),0)else .bP ((acc+e.toNat%128*128^k:Nat):Int):=by
 have hu:=H9 e
 unfold re
 dsimp only
 rw[he]
 dsimp only
 rw[cond_eq_ite]
 by_cases aa:(0<k∧e.toNat=0)∨(k=9∧1<e.toNat)
 ·rw[if_pos aa,if_pos]
  simp only[Bool.or_eq_true,Bool.and_eq_true,decide_eq_true_eq,beq_iff_eq];omega
 ·have hd:e.toNat%128*128^k<18446744073709551616:=by
   rcases Nat.lt_or_ge k 9 with hk|hk
   ·have ak:128^k≤128^8:=Nat.pow_le_pow_right (by decide) (by omega)
    have:e.toNat%128*128^k≤127*128^8:=Nat.mul_le_mul (by omega) ak
    exact Nat.lt_of_le_of_lt this (by decide)
   ·have BS:k=9:=by omega
    subst BS
    have:e.toNat%128*128^9≤1*128^9:=Nat.mul_le_mul (by omega) (Nat.le_refl _)
    exact Nat.lt_of_le_of_lt this (by decide)
  rw[if_neg aa,if_neg (by
   simp only[Bool.or_eq_true,Bool.and_eq_true,decide_eq_true_eq,beq_iff_eq]
   omega),PA aj hu aI hd,cond_eq_ite]
  by_cases af:e.toNat<128
  ·rw[if_pos af,if_pos (by rw[decide_eq_true_eq];omega)]
  ·rw[if_neg af,if_neg (by rw[decide_eq_true_eq];omega)]
theorem Ia{s:ByteArray}: ∀(m k acc:Nat) (U N:Int),k+m=s.size→acc<128^k→k≤9→bS (re s) k m (acc:Int)= .inl (U,N,0)→
 ∃(u:Nat) (t:List UInt8),U=((acc+u*128^k:Nat):Int)∧s.data.toList.drop k=vj (j0 (9-k) u)++t∧N=((k+(j0 (9-k) u).length:Nat):Int)∧(0<k→0<u)∧acc+u*128^k<18446744073709551616
 |0,k,acc,U,N,_,_,_,h=>by simp[bS]at h
 |m+1,k,acc,U,N,ah,aI,aj,h=>by
  have bz:k<s.data.toList.length:=by
   have:s.data.toList.length=s.size:=rfl
   omega
  obtain⟨e,he⟩: ∃e,s.data.toList[k]? =some e:=⟨_,List.getElem?_eq_getElem bz⟩
  have Ib:s.data.toList.drop k=e::s.data.toList.drop (k+1):=by
   rw[List.drop_eq_getElem_cons bz]
   congr 1
   rw[List.getElem?_eq_getElem bz]at he
   exact Option.some.inj he
  have Yc:=H9 e
  have PC:128^(k+1)=128*128^k:=by rw[Nat.pow_succ,Nat.mul_comm]
  have Yd:128^k≤128^9:=Nat.pow_le_pow_right (by decide) aj
  have Pk:(128:Nat)^9=9223372036854775808:=by decide
  unfold bS at h;rw[PB he aj aI]at h
  split at h
  ·rename_i r ae
   split at ae
   ·cases ae;cases h
   ·rename_i aH
    split at ae
    ·rename_i hc
     cases ae;simp only[Sum.inl.injEq,Prod.mk.injEq]at h;obtain⟨rfl,rfl,_⟩:=h
     have av:j0 (9-k) e.toNat=[e.toNat]:=by
      rcases Nat.lt_or_ge k 9 with hk|hk
      ·obtain⟨f,hf⟩: ∃f,9-k=f+1:=⟨8-k,by omega⟩
       rw[hf];unfold j0;rw[if_pos hc]
      ·rw[show 9-k=0 by omega];rfl
     have rh:acc+e.toNat*128^k<18446744073709551616:=by
      rcases Nat.lt_or_ge k 9 with hk|hk
      ·have ak:128^k≤128^8:=Nat.pow_le_pow_right (by decide) (by omega)
       have af:e.toNat*128^k≤127*128^8:=Nat.mul_le_mul (by omega) ak
       have Ic:127*(128:Nat)^8=9151314442816847872:=by decide
       omega
      ·have BS:k=9:=by omega
       subst BS
       have:e.toNat*128^9≤1*128^9:=Nat.mul_le_mul (by omega) (Nat.le_refl _)
       omega
     refine⟨e.toNat,s.data.toList.drop (k+1),by rw[Nat.mod_eq_of_lt hc],?_,by rw[av];rfl,fun aP=>by omega,rh⟩
     rw[av,Ib];simp[vj]
    ·cases ae
  ·rename_i a ae
   split at ae
   ·cases ae
   ·split at ae<;>cases ae
  ·rename_i a ae
   split at ae
   ·cases ae
   ·rename_i aH
    split at ae
    ·cases ae
    ·rename_i hc
     cases ae
     have Ye:k≤8:=by
      rcases Nat.lt_or_ge k 9 with hk|hk
      ·omega
      ·exact absurd (Or.inr ⟨by omega,by omega⟩) aH
     have BT:acc+e.toNat%128*128^k<128^(k+1):=by
      have:e.toNat%128*128^k≤127*128^k:=Nat.mul_le_mul (by omega) (Nat.le_refl _)
      omega
     obtain⟨u,t,aa,af,ar,aQ,bx⟩:=Ia m (k+1) (acc+e.toNat%128*128^k) U N (by omega) BT (by omega) h
     have Yf:=aQ (by omega)
     have vk:acc+e.toNat%128*128^k+u*128^(k+1)=acc+(e.toNat%128+u*128)*128^k:=by
      rw[PC,Nat.add_mul,Nat.add_assoc,Nat.mul_assoc]
     have av:j0 (9-k) (e.toNat%128+u*128)=e.toNat::j0 (9-(k+1)) u:=by
      rw[show 9-k=(9-(k+1))+1 by omega]
      conv=>lhs;unfold j0
      rw[if_neg (by omega)]
      congr 1
      ·omega
      ·congr 1
       omega
     refine⟨e.toNat%128+u*128,t,by rw[aa,vk],?_,?_,fun _=>by omega,by rw[←vk];exact bx⟩
     ·rw[av,Ib,af]
      simp[vj]
     ·rw[av,ar,List.length_cons]
      congr 1
      omega
theorem PD{s:ByteArray}{U N:Int}(h:ko s=(U,N,0)): ∃(u:Nat) (t:ByteArray),U=(u:Int)∧s=mG u++t∧N=(((mG u).size:Nat):Int)∧u<18446744073709551616:=by
 unfold ko at h
 split at h
 ·rename_i r ae
  subst h;unfold BQ at ae;obtain⟨u,t,aa,af,ar,_,bx⟩:=Ia s.size 0 0 U N (by omega) (by decide) (by decide) ae
  refine⟨u,⟨t.toArray⟩,by rw[aa];simp,mH ?_,by rw[ar,H8];simp,by omega⟩
  rw[ByteArray.data_append,Array.toList_append,Py];simpa using af
 ·simp at h
end Go.aG
namespace Go.aG
open Go Go.aG Go.du
theorem BU{v:cr}(h:mF v=0):v.s.size≤60:=by
 unfold mF at h
 simp only[cond_eq_ite]at h
 repeat' split at h
 all_goals first
  |(cases h;done)
  |(rename_i aH _;simp at aH;omega)
  |(rename_i aH;simp at aH;omega)
theorem PE{a b:ByteArray}:bR a b=true↔a=b:=by rw[BV];simp
theorem PF{v:cr}(h:mF v=0):(v.kind=0∧v.n=0∧v.s=⟨#[]⟩)∨((v.kind=1∨v.kind=2∨v.kind=3)∧v.s=⟨#[]⟩∧ -1099511627776≤v.n∧v.n≤1099511627776)∨(v.kind=4∧v.n=0∧v.s.size≤60):=by
 have bA:=BU h
 unfold mF at h
 cases cW:(((v.kind==0)||(v.kind==4))||((v.kind==1)||((v.kind==2)||(v.kind==3))))with
 |false=>rw[cW]at h;cases h
 |true=>
  rw[cW]at h
  cases gi:(bif((v.kind==0)||(v.kind==4))then(v.n==0)else(bif(v.kind==1)then((v.n==0)||(v.n==1))else(bif(v.kind==2)then yi v.n else(decide (v.n≥0)&&decide (v.n≤63)))))with
  |false=>rw[gi]at h;cases h
  |true=>
   rw[gi]at h;simp only[cond_true,Bool.not_true,cond_false]at h;simp only[cond_eq_ite]at h
   split at h
   ·cases h
   ·split at h
    ·cases h
    ·rename_i ar
     have ah:v.kind≠4→v.s=⟨#[]⟩:=fun aj=>by
      simp only[Bool.and_eq_true,bne_iff_ne,ne_eq,not_and,Decidable.not_not,Bool.not_eq_true']at ar
      cases aH:bR v.s ⟨#[]⟩with
      |true=>exact PE.1 aH
      |false=>exact absurd (ar aH) aj
     simp only[Bool.or_eq_true,beq_iff_eq]at cW
     rcases cW with (aP|aQ)|aa|af|ar
     ·exact .inl ⟨aP,by simpa[aP]using gi,ah (by omega)⟩
     ·exact .inr (.inr ⟨aQ,by simpa[aQ]using gi,bA⟩)
     ·refine .inr (.inl ⟨.inl aa,ah (by omega),?_⟩)
      simp[aa]at gi;omega
     ·refine .inr (.inl ⟨.inr (.inl af),ah (by omega),?_⟩)
      simp[af,yi]at gi;omega
     ·refine .inr (.inl ⟨.inr (.inr ar),ah (by omega),?_⟩)
      simp[ar]at gi;omega
def yj(r:Rd):cr × Rd:=
 if(cR r).1=1∨(cR r).1=2∨(cR r).1=3 then(⟨(cR r).1,(cR (cR r).2).1,⟨#[]⟩⟩,(cR (cR r).2).2)
 else if(cR r).1=4 then(⟨(cR r).1,0,(jZ (cR r).2 60).1⟩,(jZ (cR r).2 60).2)else(⟨(cR r).1,0,⟨#[]⟩⟩,(cR r).2)
end Go.aG
namespace Go.aG
open Go Go.aG Go.du
theorem Ie(s:ByteArray)(n:Nat):(s.extract n s.size).data.toList=s.data.toList.drop n:=by
 rw[ByteArray.data_extract,Array.toList_extract]
 have ah:s.size=s.data.toList.length:=rfl
 rw[ah]
 simp[List.extract]
 rw[List.take_of_length_le (l:=List.drop n s.data.toList) (by rw[List.length_drop];exact Nat.le_refl _)]
end Go.aG
namespace Go.aG
open Go Go.du
theorem PG(u:Nat):bK .shr .u64 (u:Int) 7=((u/ 128:Nat):Int):=by
 show(u:Int).fdiv (2^(min (7:Int).toNat 64))=_
 rw[show(2:Int)^(min (7:Int).toNat 64)=128 from rfl,Int.fdiv_eq_ediv_of_nonneg _ (by decide)]
 omega
def ri(R:Type)(c:Int × List Int):Step R (Int × List Int):=
 bif decide (c.1≥128)then .bP (bK .shr .u64 c.1 7,List.append c.2 [bK .or .u8 (IntKind.wrap .u8 c.1) 128])else .b9 (c.1,c.2)
theorem PH(R:Type){u:Nat}(acc:List Int)(h:u<128):ri R ((u:Int),acc)= .b9 ((u:Int),acc):=by
 unfold ri
 rw[show decide ((u:Int)≥128)=false from decide_eq_false (by omega)]
 rfl
theorem Ig(R:Type){u:Nat}(acc:List Int)(h: ¬u<128):ri R ((u:Int),acc)= .bP (((u/ 128:Nat):Int),acc++[((u%128+128:Nat):Int)]):=by
 unfold ri
 rw[show decide ((u:Int)≥128)=true from decide_eq_true (by omega),cond_true,PG]
 show Step.bP (_,acc++[l6 .u8 (IntKind.u8.wrap (u:Int)) 128])=_
 rw[Px]
theorem Ih{R:Type}{b:Int × List Int→Step R (Int × List Int)}(an: ∀(u:Nat) acc,u<128→b ((u:Int),acc)= .b9 ((u:Int),acc))
 (ag: ∀(u:Nat) acc,¬u<128→u<18446744073709551616→b ((u:Int),acc)= .bP (((u/ 128:Nat):Int),acc++[((u%128+128:Nat):Int)])):
 ∀(f u F:Nat) (acc:List Int),u<128*128^f→u<18446744073709551616→f<F→∃(x:Nat) (l:List Int),b3 b F ((u:Int),acc)= .inr ((x:Int),acc++l)∧(j0 f u).map (fun b:Nat=>(b:Int))=l++[(x:Int)]∧x<128
 |f,u,0,acc,h,_,hF=>absurd hF (Nat.not_lt_zero _)
 |f,u,F+1,acc,h,rh,hF=>by
  by_cases hu:u<128
  ·refine⟨u,[],by rw[H5 (an u acc hu),List.append_nil],?_,hu⟩
   cases f with
   |zero=>rfl
   |succ f=>unfold j0;rw[if_pos hu];rfl
  ·cases f with
   |zero=>exact absurd h (by simpa using hu)
   |succ f=>
    have af:u/ 128<128*128^f:=by
     rw[Nat.pow_succ]at h;omega
    obtain⟨x,l,aC,a6,ck⟩:=Ih an ag f (u/ 128) F (acc++[((u%128+128:Nat):Int)]) af (by omega) (by omega)
    refine⟨x,((u%128+128:Nat):Int)::l,?_,?_,ck⟩
    ·rw[H6 (ag u acc hu rh),aC,List.append_assoc,List.singleton_append]
    ·unfold j0
     rw[if_neg hu,List.map_cons,a6,List.cons_append]
theorem PI{R:Type}{b:Int × List Int→Step R (Int × List Int)}(an: ∀(u:Nat) acc,u<128→b ((u:Int),acc)= .b9 ((u:Int),acc))
 (ag: ∀(u:Nat) acc,¬u<128→u<18446744073709551616→b ((u:Int),acc)= .bP (((u/ 128:Nat):Int),acc++[((u%128+128:Nat):Int)])){u:Nat}(rh:u<18446744073709551616):
 ∃(x:Nat) (l:List Int),b3 b cX ((u:Int),[])= .inr ((x:Int),l)∧bytesOf (List.append l [IntKind.wrap .u8 (x:Int)])=mG u:=by
 obtain⟨x,l,aC,a6,ck⟩:=Ih an ag 9 u cX [] (Nat.lt_of_lt_of_le rh (by decide)) rh (by decide)
 refine⟨x,l,aC,?_⟩
 unfold mG
 rw[a6,IntKind.wrap_u8',show(x:Int)%256=(x:Int)by omega]
 rfl
theorem Ii{n:Int}(h:dK n):bK .xor .u64 (bK .shl .u64 (IntKind.wrap .u64 n) 1) (IntKind.wrap .u64 (bK .shr .i64 n 63))=((j1 n:Nat):Int):=by
 have:bK .shr .i64 n 63=n.fdiv 9223372036854775808:=rfl
 rw[this]
 exact Pv h
theorem BW{n:Int}(h:dK n):fD n=mG (j1 n):=by
 obtain⟨x,l,aC,a6⟩:=PI (R:=ByteArray) (b:=ri ByteArray) (fun u acc=>PH _ acc) (fun u acc h _=>Ig _ acc h) (vg h)
 unfold fD
 rw[Ii h]
 show Sum.elim _ _ (b3 (ri ByteArray) cX (((j1 n:Nat):Int),[]))=_
 rw[aC]
 exact a6
theorem vl{u:Nat}:(mG u).size≤10:=by rw[H8];exact Pz 9 u
def rj(d:Int × List Int):Prop:=∃(u f:Nat),d.1=(u:Int)∧u<18446744073709551616∧u<128*128^f∧d.2.length+f≤9
theorem PJ{u:Nat}(h:u<18446744073709551616):rj ((u:Int),[]):=⟨u,9,rfl,h,Nat.lt_of_lt_of_le h (by decide),Nat.le_refl _⟩
theorem PK{u:Nat}{acc:List Int}(h:rj ((u:Int),acc))(hu: ¬u<128):rj (((u/ 128:Nat):Int),acc++[((u%128+128:Nat):Int)]):=by
 obtain⟨v,f,aa,af,ar,aQ⟩:=h
 have:u=v:=by have:(u:Int)=v:=aa;omega
 subst this
 cases f with
 |zero=>exact absurd ar (by simpa using hu)
 |succ f=>
  have aQ:acc.length+(f+1)≤9:=aQ
  exact⟨u/ 128,f,rfl,by omega,by rw[Nat.pow_succ]at ar;omega,by show(acc++[_]).length+f≤9;rw[List.length_append];simp;omega⟩
theorem Ij{d:Int × List Int}(h:rj d):d.2.length≤9:=by
 obtain⟨_,f,_,_,_,aQ⟩:=h
 omega
theorem PL{d:Int × List Int}(h:rj d): ∃(u:Nat) (acc:List Int),d=((u:Int),acc)∧u<18446744073709551616:=by
 obtain⟨u,_,aa,af,_⟩:=h
 exact⟨u,d.2,by rw[←aa],af⟩
theorem sT{n:Int}(h:dK n):mI n:=by
 unfold mI
 rw[Ii h]
 refine⟨rj,fun d=>d.1.toNat,PJ (vg h),?_,fun d hd=>⟨fun hc=>?_,fun hc=>?_⟩⟩
 ·have:=vg h
  show(((j1 n:Nat):Int)).toNat<cX;unfold cX;omega
 ·obtain⟨u,acc,rfl,hu⟩:=PL hd
  have an:acc.length≤9:=Ij hd
  have hc: ¬u<128:=by have:=of_decide_eq_true hc;simp only at this;omega
  have ad:=Ig Unit acc hc
  unfold ri at ad;rw[show decide ((u:Int)≥128)=true from decide_eq_true (by omega),cond_true]at ad
  have aC:=congrArg (fun s=>match s with|Step.bP x=>x.1|_=>0) ad
  have a6:=congrArg (fun s=>match s with|Step.bP x=>x.2|_=>[]) ad
  simp only at aC a6;refine⟨⟨?_,?_⟩,?_,?_⟩
  ·show acc.length+1≤maxLen
   unfold maxLen;omega
  ·show(acc.length+1)*1≤_
   omega
  ·show rj (bK .shr .u64 (u:Int) 7,List.append acc [bK .or .u8 (IntKind.wrap .u8 (u:Int)) 128])
   rw[aC,a6];exact PK hd hc
  ·show(bK .shr .u64 (u:Int) 7).toNat<(u:Int).toNat
   rw[aC];omega
 ·have an:=Ij hd
  refine⟨?_,?_⟩
  ·show d.2.length+1≤maxLen
   unfold maxLen;omega
  ·show(d.2.length+1)*1≤_
   omega
def bD(s:ByteArray):Prop:=s.size≤140737488351232
theorem bD.i64{s:ByteArray}(h:bD s):dK (s.size:Int):=by unfold bD at h;exact⟨by omega,by omega⟩
theorem BX{s:ByteArray}(h:bD s):hl s=mG (j1 s.size)++s:=by
 unfold hl
 rw[BW h.i64]
 rfl
theorem PM(a b:ByteArray):(a++b).size=a.size+b.size:=ByteArray.size_append
theorem vm{s:ByteArray}(h:bD s):(hl s).size≤140737488351242:=by
 rw[BX h,ByteArray.size_append]
 have:=vl (u:=j1 s.size)
 unfold bD at h
 omega
theorem vn{s:ByteArray}(h:bD s):pV s:=by
 refine⟨sT h.i64,?_⟩
 have:=vl (u:=j1 s.size)
 rw[BW h.i64]
 unfold bD at h
 omega
theorem mJ{n:Int}(h:dK n):(fD n).size≤10:=by rw[BW h];exact vl
end Go.aG
namespace Go.aG
open Go Go.du
theorem Ik(r:Rd)(n:Int):0≤(gT r n).1:=by
 unfold gT
 cases cW:((kp ((cR r).2)) != 0)with
 |true=>exact Int.le_refl _
 |false=>
  simp only[cond_false]
  cases gi:decide ((cR r).1<0)with
  |true=>exact Int.le_refl _
  |false=>
   simp only[cond_false]
   have gi:=of_decide_eq_false gi
   cases lq:decide ((cR r).1>(if 0>n then 0 else n))with
   |true=>exact Int.le_refl _
   |false=>
    simp only[cond_false];omega
theorem yk(v:cr):fL v=mF v:=by
 unfold fL mF bm
 dsimp only
 have:vo v.n=yi v.n:=rfl
 rw[this]
 cases (v.kind==0)<;>cases (v.kind==4)<;>cases (v.kind==1)<;>cases (v.kind==2)<;>cases (v.kind==3)<;>rfl
theorem oP(r:Rd):l7 r=(r,kp r):=by
 unfold l7 kp
 cases r.made<;>rfl
def dF(s:ByteArray):Prop:=s.size≤4611686018427387904
theorem yl{s:ByteArray}{k:Nat}(h:k<s.size):s.data.toList[k]? =some (s.data.toList.getD k 0)∧aK s (k:Int)=((s.data.toList.getD k 0).toNat:Int):=by
 have an:k<s.data.toList.length:=h
 refine⟨by rw[List.getD_eq_getElem?_getD,List.getElem?_eq_getElem an];rfl,?_⟩
 unfold aK
 rw[Int.toNat_natCast]
theorem Il{s:ByteArray}(h:dF s):vp s=ko s:=by
 unfold dF at h
 unfold vp ko BQ
 dsimp only
 rw[Int.toNat_natCast,ym (b:=re s) (fun _ _=>True) s.size (fun i v hi _=>⟨?_,fun _ _=>trivial⟩) s.size 0 0 (Nat.zero_add _) trivial]
 ·cases bS (re s) 0 s.size 0<;>rfl
 ·obtain⟨aC,a6⟩:=yl hi
  unfold re;dsimp only;rw[aC,a6];dsimp only
  have hw:IntKind.wrap .i64 ((i:Int)+1)=((i+1:Nat):Int):=by rw[eM _ (by omega) (by omega)];omega
  rw[hw];rfl
theorem nV{r:Rd}(h:dF r.rest):hJ r=((cR r).2,(cR r).1):=by
 unfold hJ cR
 rw[oP]
 dsimp only
 rw[Il h]
 cases (kp r != 0)with
 |true=>rfl
 |false=>
  simp only[cond_false]
  cases ((ko r.rest).2.2 != 0)<;>rfl
theorem Im{s:ByteArray}{a b:Nat}(h:dF s):dF (s.extract a b):=by
 unfold dF at h⊢
 rw[ByteArray.size_extract]
 omega
theorem pW{r:Rd}(h:dF r.rest):dF (cR r).2.rest:=by
 unfold cR
 simp only[cond_eq_ite]
 repeat' split
 all_goals first|exact h|exact Im h
theorem PN{r:Rd}{n:Int}(h:dF r.rest):dF (gT r n).2.rest:=by
 have:=pW h
 unfold gT
 simp only[cond_eq_ite]
 repeat' split
 all_goals exact this
theorem yn{r:Rd}{n:Int}(h:dF r.rest):dF (jZ r n).2.rest:=by
 have:=PN (n:=n) h
 unfold jZ
 simp only[cond_eq_ite]
 repeat' split
 all_goals first|exact this|exact Im this
theorem Io{r:Rd}{n:Int}(h:dF r.rest):vq r n=((gT r n).2,(gT r n).1):=by
 unfold vq gT
 rw[nV h]
 dsimp only
 rw[oP]
 simp only[cond_eq_ite]
 repeat' split
 all_goals first|rfl|(simp_all[bW.den])
theorem pX{r:Rd}{n:Int}(h:dF r.rest):hY r n=((jZ r n).2,(jZ r n).1):=by
 unfold hY jZ
 rw[Io h]
 dsimp only
 rw[oP]
 simp only[cond_eq_ite]
 repeat' split
 all_goals rfl
theorem PO(r:Rd)(e:Int):yo r e=vd r e:=by
 unfold yo vd
 rw[oP]
theorem Ip(r:Rd):(⟨r.rest,r.err,r.made⟩:Rd)=r:=rfl
theorem Iq{r:Rd}(h:dF r.rest):rk r=((pU r).2,(pU r).1):=by
 have aa:=pW h
 unfold rk pU sR ve vf
 rw[nV h]
 dsimp only
 rw[nV aa,pX aa]
 simp only[oP,PO,yk,Ip]
 cases ((cR r).1==1)<;>cases ((cR r).1==2)<;>cases ((cR r).1==3)<;>cases ((cR r).1==4)<;>simp only[cond_true,cond_false,Bool.true_or,Bool.or_true,Bool.false_or,Bool.or_false,Ip]<;>(cases (mF _ != 0)<;>simp only[cond_true,cond_false]<;>(cases (kp _ != 0)<;>rfl))
theorem PQ(r:Rd):(yp r).2=sQ r:=by
 unfold yp BY sQ H2
 rw[oP]
 dsimp only
 cases (kp r != 0)<;>simp only[cond_true,cond_false]<;>rw[oP]<;>simp only[cond_eq_ite]<;>split<;>rfl
end Go.aG
namespace Go.aG
open Go Go.du
theorem PR{s:ByteArray}(h:dF s):BZ s:=by
 unfold dF at h
 refine⟨⟨by omega,by omega⟩,fun i _=>i≤9,Nat.zero_le _,fun i d _ hi=>?_⟩
 have hi:i≤9:=hi
 intro v5 hc
 refine⟨?_,fun ho=>?_⟩
 ·show 0≤IntKind.wrap .i64 (7*(i:Int))
  rw[eM _ (by omega) (by omega)]
  omega
 ·have ho:=of_decide_eq_false ho
  show i+1≤9
  rcases Nat.lt_or_ge i 9 with hk|hk
  ·exact hk
  ·have:i=9:=by omega
   subst this;simp only[Bool.or_eq_false_iff,Bool.and_eq_false_iff]at hc
   rcases hc.2 with h|h
   ·exact absurd h (by decide)
   ·have:=of_decide_eq_false h
    omega
theorem PS{s:ByteArray}(h:(ko s).2.2=0):0≤(ko s).2.1∧(ko s).2.1≤(s.size:Int):=by
 obtain⟨u,t,aa,af,ar,aQ⟩:=PD (s:=s) (U:=(ko s).1) (N:=(ko s).2.1) (by rw[←h])
 rw[ar]
 have:=congrArg ByteArray.size af
 rw[ByteArray.size_append]at this
 omega
theorem pY{r:Rd}(h:dF r.rest):oQ r:=by
 unfold oQ
 rw[oP]
 intro v1 _
 refine⟨PR h,fun hc=>?_⟩
 have hc:=H3 hc
 rw[Il h]at hc⊢
 exact PS hc
theorem PT{r:Rd}{n:Int}(h:dF r.rest):B0 r n:=pY h
theorem rm{r:Rd}{n:Int}(h:dF r.rest):rn r n:=by
 refine⟨PT h,?_⟩
 rw[Io h]
 show(_ != 0)=false→_
 rw[oP]
 intro _ hd
 have hd:=of_decide_eq_false hd
 have hn:=Ik r n
 have hd: ¬(gT r n).1>((gT r n).2.rest.size:Int):=hd
 exact⟨⟨hn,by omega⟩,hn,by omega⟩
theorem PU{r:Rd}(h:dF r.rest):yq r:=by
 have aa:=pW h
 unfold yq
 rw[nV h]
 dsimp only
 refine⟨pY h,⟨fun _=>⟨fun _=>pY aa,fun _ _=>rm aa⟩,fun _=>⟨fun _=>⟨fun _=>pY aa,fun _ _=>rm aa⟩,fun _=>⟨fun _=>pY aa,fun _ _=>rm aa⟩⟩⟩⟩
theorem PV{r:Rd}{e:Int}(h:dF r.rest):dF (vd r e).rest:=by
 unfold vd
 cases (kp r==0)<;>exact h
theorem PW{r:Rd}(h:dF r.rest):dF (pU r).2.rest:=by
 have aa:=pW h
 have af:dF (vf r).rest:=by
  unfold vf;simp only[cond_eq_ite]
  repeat' split
  ·exact pW aa
  ·exact yn aa
  ·exact aa
 have ar:dF (sR r).rest:=by
  unfold sR;simp only[cond_eq_ite]
  split
  ·exact PV af
  ·exact af
 unfold pU
 simp only[cond_eq_ite]
 split<;>exact ar
def kS(s:ByteArray):Int × Rd:=cR (Pq s)
def kT(s:ByteArray):Int × Rd:=cR (kS s).2
def mK(s:ByteArray):Int × Rd:=cR (kT s).2
def mL(s:ByteArray):ByteArray × Rd:=jZ (mK s).2 24
def mM(s:ByteArray):ByteArray × Rd:=jZ (mL s).2 24
def nW(s:ByteArray):ByteArray × Rd:=jZ (mM s).2 24
def pZ(s:ByteArray):cr × Rd:=pU (nW s).2
def lr(s:ByteArray):ByteArray × Rd:=jZ (pZ s).2 20000
def gH(s:ByteArray):ew:=⟨(kS s).1,(kT s).1,⟨(mK s).1,(mL s).1,(mM s).1⟩,(nW s).1,(pZ s).1,(lr s).1⟩
def yr:ew:=⟨0,0,⟨0,⟨#[]⟩,⟨#[]⟩⟩,⟨#[]⟩,⟨0,0,⟨#[]⟩⟩,⟨#[]⟩⟩
def j2(s:ByteArray):ew × Int:=
 if sQ (lr s).2≠0 then(yr,sQ (lr s).2)else if(gH s).kind<1∨(gH s).kind>7 then(yr,7)else if(gH s).ec<0∨(gH s).ec>1099511627776 then(yr,2)else(gH s,0)
theorem Ir{s:ByteArray}(h:dF s):dF (kS s).2.rest∧dF (kT s).2.rest∧dF (mK s).2.rest∧dF (mL s).2.rest∧dF (mM s).2.rest∧dF (nW s).2.rest∧dF (pZ s).2.rest:=by
 have aa:dF (kS s).2.rest:=pW h
 have af:dF (kT s).2.rest:=pW aa
 have ar:dF (mK s).2.rest:=pW af
 have aQ:dF (mL s).2.rest:=yn ar
 have bx:dF (mM s).2.rest:=yn aQ
 have ct:dF (nW s).2.rest:=yn bx
 exact⟨aa,af,ar,aQ,bx,ct,PW ct⟩
theorem yt{s:ByteArray}(h:dF s):iP s=j2 s:=by
 obtain⟨aa,af,ar,aQ,bx,ct,dw⟩:=Ir h
 have aC:hJ ⟨s,0,true⟩=((kS s).2,(kS s).1):=nV (r:=⟨s,0,true⟩) h
 have a6:hJ (kS s).2=((kT s).2,(kT s).1):=nV aa
 have ck:hJ (kT s).2=((mK s).2,(mK s).1):=nV af
 have eT:hY (mK s).2 24=((mL s).2,(mL s).1):=pX ar
 have rf:hY (mL s).2 24=((mM s).2,(mM s).1):=pX aQ
 have B1:hY (mM s).2 24=((nW s).2,(nW s).1):=pX bx
 have B2:rk (nW s).2=((pZ s).2,(pZ s).1):=Iq ct
 have Ic:hY (pZ s).2 20000=((lr s).2,(lr s).1):=pX dw
 unfold iP j2
 simp only[aC,a6,ck,eT,rf,B1,B2,Ic,PQ]
 unfold B3 B4
 by_cases lu:sQ (lr s).2=0
 ·rw[lu,if_neg (fun h=>h rfl)]
  simp only[bne_self_eq_false,cond_false];show(bif(bif(decide ((gH s).kind<1)||decide ((gH s).kind>7))then(7:Int)else 0) != 0 then _ else _)=_
  by_cases hK:(gH s).kind<1∨(gH s).kind>7
  ·rw[if_pos hK,show(decide ((gH s).kind<1)||decide ((gH s).kind>7))=true by simpa using hK]
   have:(decide ((kS s).1<1)||decide ((kS s).1>7))=true:=by have hK:(kS s).1<1∨(kS s).1>7:=hK;simpa using hK
   rw[this];rfl
  ·rw[if_neg hK,show(decide ((gH s).kind<1)||decide ((gH s).kind>7))=false by simp only[not_or]at hK;simp only[Bool.or_eq_false_iff,decide_eq_false_iff_not];exact hK]
   show(bif(bif(decide ((gH s).ec<0)||decide ((gH s).ec>1099511627776))then(2:Int)else 0) != 0 then _ else _)=_
   by_cases jB:(gH s).ec<0∨(gH s).ec>1099511627776
   ·rw[if_pos jB,show(decide ((gH s).ec<0)||decide ((gH s).ec>1099511627776))=true by simpa using jB]
    have:(decide ((kT s).1<0)||decide ((kT s).1>1099511627776))=true:=by have jB:(kT s).1<0∨(kT s).1>1099511627776:=jB;simpa using jB
    rw[this];rfl
   ·rw[if_neg jB,show(decide ((gH s).ec<0)||decide ((gH s).ec>1099511627776))=false by simp only[not_or]at jB;simp only[Bool.or_eq_false_iff,decide_eq_false_iff_not];exact jB]
    rfl
 ·rw[if_pos lu,show(sQ (lr s).2 != 0)=true by simpa using lu]
  simp only[cond_true];rfl
theorem Is{s:ByteArray}(h:dF s):sU s:=by
 obtain⟨aa,af,ar,aQ,bx,ct,dw⟩:=Ir h
 have aC:hJ ⟨s,0,true⟩=((kS s).2,(kS s).1):=nV (r:=⟨s,0,true⟩) h
 have a6:hJ (kS s).2=((kT s).2,(kT s).1):=nV aa
 have ck:hJ (kT s).2=((mK s).2,(mK s).1):=nV af
 have eT:hY (mK s).2 24=((mL s).2,(mL s).1):=pX ar
 have rf:hY (mL s).2 24=((mM s).2,(mM s).1):=pX aQ
 have B1:hY (mM s).2 24=((nW s).2,(nW s).1):=pX bx
 have B2:rk (nW s).2=((pZ s).2,(pZ s).1):=Iq ct
 unfold sU
 simp only[aC,a6,ck,eT,rf,B1,B2]
 exact⟨pY (r:=⟨s,0,true⟩) h,pY aa,pY af,rm ar,rm aQ,rm bx,PU ct,rm dw⟩
end Go.aG
namespace Go.aG
open Go Go.du
def kU(P:Int→Int→Bool)(x:ByteArray):Nat→Nat→Bool
 |_,0=>true
 |k,n+1=>!P (aK x (k:Int)) (k:Int)&&kU P x (k+1) n
theorem It{x:ByteArray}{k:Nat}(aj:k<x.size):aK x (k:Int)=((x[k]'aj).toNat:Int):=by
 rw[(yl aj).2,List.getD_eq_getElem?_getD,List.getElem?_eq_getElem (show k<x.data.toList.length from aj)]
 rfl
theorem B5{P:Int→Int→Bool}(mN: ∀c i,128≤c→P c i=true){x:ByteArray}{b:Int→Step Bool Int}
 (ad: ∀c,b c=bif bW.den .ix x c then(bif P (bW.den .iy x c) (bW.den .jC x c)then .ret false else .bP (bW.den .hp x c))else .b9 c):
 ∀(n p F:Nat),x.size-p=n→n<F→∃v,b3 b F (p:Int)=bif kU P x p n then .inr v else .inl false
 |n,p,0,_,h=>absurd h (Nat.not_lt_zero _)
 |0,p,F+1,hn,_=>by
  refine⟨(p:Int),?_⟩
  have:bW.den .ix x (p:Int)=false:=decide_eq_false (by rw[Int.toNat_natCast];omega)
  rw[H5 (y:=(p:Int)) (by rw[ad,this,cond_false]),kU,cond_true]
 |n+1,p,F+1,hn,hF=>by
  have ak:p<x.size:=by omega
  have aa:bW.den .ix x (p:Int)=true:=decide_eq_true (by rw[Int.toNat_natCast];exact ak)
  have ar:bW.den .jC x (p:Int)=(p:Int):=by show((p:Int).toNat:Int)=p;rw[Int.toNat_natCast]
  have af:bW.den .iy x (p:Int)=((Utf8.decode x p).1:Int):=by show((Utf8.decode x (p:Int).toNat).1:Int)=_;rw[Int.toNat_natCast]
  have aQ:bW.den .hp x (p:Int)=((p+(Utf8.decode x p).2:Nat):Int):=by show(((p:Int).toNat+(Utf8.decode x (p:Int).toNat).2:Nat):Int)=_;rw[Int.toNat_natCast]
  rcases Nat.lt_or_ge (x[p]'ak).toNat 128 with aI|aI
  ·have hd:=decode_ascii x p ak aI
   have av:((Utf8.decode x p).1:Int)=aK x (p:Int):=by rw[hd,It ak]
   have PX:p+(Utf8.decode x p).2=p+1:=by rw[hd]
   cases aH:P (aK x (p:Int)) (p:Int)with
   |true=>
    refine⟨0,?_⟩
    unfold b3 kU;rw[ad,aa,cond_true,af,ar,av,aH];rfl
   |false=>
    obtain⟨v,aO⟩:=B5 mN ad n (p+1) F (by omega) (by omega)
    refine⟨v,?_⟩
    rw[H6 (y:=((p+1:Nat):Int)) (by rw[ad,aa,cond_true,af,ar,av,aH,cond_false,aQ,PX]),aO]
    conv=>rhs;rw[kU]
    rw[aH];rfl
  ·have hd:=(decode_high x p ak aI).1
   have aC:P ((Utf8.decode x p).1:Int) (p:Int)=true:=mN _ _ (by omega)
   have a6:P (aK x (p:Int)) (p:Int)=true:=mN _ _ (by rw[It ak];omega)
   refine⟨0,?_⟩
   unfold b3 kU;rw[ad,aa,cond_true,af,ar,aC,a6];rfl
theorem Iu{P:Int→Int→Bool}(mN: ∀c i,128≤c→P c i=true){x:ByteArray}(rh:x.size<18446744073709551616):
 ∃(cS:Int→Prop) (gj:Int→Nat),cS 0∧gj 0<cX∧∀(d0:Int),cS d0→(bW.den .ix x d0=true→(P (bW.den .iy x d0) (bW.den .jC x d0)=false→cS (bW.den .hp x d0)∧gj (bW.den .hp x d0)<gj d0)):=by
 refine⟨fun d=>0≤d,fun d=>x.size-d.toNat,Int.le_refl _,by unfold cX;show x.size-(0:Int).toNat<_;omega,fun d hd aa af=>?_⟩
 obtain⟨p,rfl⟩: ∃p:Nat,d=p:=⟨d.toNat,(Int.toNat_of_nonneg hd).symm⟩
 have ak:p<x.size:=by have:=of_decide_eq_true aa;rwa[Int.toNat_natCast]at this
 have ar:bW.den .jC x (p:Int)=(p:Int):=by show((p:Int).toNat:Int)=p;rw[Int.toNat_natCast]
 have yu:bW.den .iy x (p:Int)=((Utf8.decode x p).1:Int):=by show((Utf8.decode x (p:Int).toNat).1:Int)=_;rw[Int.toNat_natCast]
 have aQ:bW.den .hp x (p:Int)=((p+(Utf8.decode x p).2:Nat):Int):=by show(((p:Int).toNat+(Utf8.decode x (p:Int).toNat).2:Nat):Int)=_;rw[Int.toNat_natCast]
 rcases Nat.lt_or_ge (x[p]'ak).toNat 128 with aI|aI
 ·have hd:=decode_ascii x p ak aI
  rw[aQ,hd];refine⟨by show(0:Int)≤_;omega,?_⟩
  show x.size-(((p+1:Nat):Int)).toNat<x.size-((p:Int)).toNat;omega
 ·have hd:=(decode_high x p ak aI).1
  rw[yu,ar,mN _ _ (by omega)]at af
  cases af
def mO(c i:Int):Bool:=(!(decide (c≥97)&&decide (c≤122)))&&((i==0)||(((c != 95)&&(c != 45))&&((decide (c<48))||(decide (c>57)))))
theorem Iv(c i:Int)(h:128≤c):mO c i=true:=by
 unfold mO
 have aa:decide (c≤122)=false:=decide_eq_false (by omega)
 have af:(c != 95)=true:=by simp;omega
 have ar:(c != 45)=true:=by simp;omega
 have aQ:decide (c>57)=true:=decide_eq_true (by omega)
 simp only[aa,af,ar,aQ,Bool.and_false,Bool.not_false,Bool.and_true,Bool.or_true,Bool.true_and]
def valid(x:ByteArray):Bool:=bif((decide ((ByteArray.size x:Int)<1))||(decide ((ByteArray.size x:Int)>24)))then false else kU mO x 0 x.size
theorem sV(x:ByteArray):m32 x=valid x:=by
 unfold m32 valid
 cases h:((decide ((ByteArray.size x:Int)<1))||(decide ((ByteArray.size x:Int)>24)))with
 |true=>rfl
 |false=>
  simp only[Bool.or_eq_false_iff,decide_eq_false_iff_not]at h;simp only[cond_false];obtain⟨v,av⟩:=B5 Iv (x:=x) (b:=fun(aF:Int)=>bif bW.den .ix x aF then(bif mO (bW.den .iy x aF) (bW.den .jC x aF)then Step.ret false else .bP (bW.den .hp x aF))else .b9 aF) (fun _=>rfl) x.size 0 cX (by omega) (by unfold cX;omega)
  have:(b3 (fun(aF:Int)=>bif bW.den .ix x aF then(bif mO (bW.den .iy x aF) (bW.den .jC x aF)then Step.ret false else .bP (bW.den .hp x aF))else .b9 aF) cX 0:Bool⊕Int)=_:=av
  show Sum.elim _ _ (b3 (fun(aF:Int)=>bif bW.den .ix x aF then(bif mO (bW.den .iy x aF) (bW.den .jC x aF)then Step.ret false else .bP (bW.den .hp x aF))else .b9 aF) cX 0:Bool⊕Int)=_
  rw[this]
  cases kU mO x 0 x.size<;>rfl
theorem yv(x:ByteArray):sW x:=by
 intro h
 simp only[Bool.or_eq_false_iff,decide_eq_false_iff_not]at h
 exact Iu Iv (x:=x) (by omega)
def rp(c _i:Int):Bool:=(decide (c<33))||(decide (c>126))
theorem Iw(c i:Int)(h:128≤c):rp c i=true:=by
 unfold rp
 rw[decide_eq_true (show c>126 by omega),Bool.or_true]
def seen(x:ByteArray):Bool:=kU rp x 0 x.size&&((decide ((ByteArray.size x:Int)≥1))&&(decide ((ByteArray.size x:Int)≤1000)))
theorem PY{x:ByteArray}(h:x.size<9223372036854775808):sX x=seen x:=by
 unfold sX seen
 obtain⟨v,av⟩:=B5 Iw (x:=x) (b:=fun(aF:Int)=>bif bW.den .ix x aF then(bif rp (bW.den .iy x aF) (bW.den .jC x aF)then Step.ret false else .bP (bW.den .hp x aF))else .b9 aF) (fun _=>rfl) x.size 0 cX (by omega) (by unfold cX;omega)
 have:(b3 (fun(aF:Int)=>bif bW.den .ix x aF then(bif rp (bW.den .iy x aF) (bW.den .jC x aF)then Step.ret false else .bP (bW.den .hp x aF))else .b9 aF) cX 0:Bool⊕Int)=_:=av
 show Sum.elim _ _ (b3 (fun(aF:Int)=>bif bW.den .ix x aF then(bif rp (bW.den .iy x aF) (bW.den .jC x aF)then Step.ret false else .bP (bW.den .hp x aF))else .b9 aF) cX 0:Bool⊕Int)=_
 rw[this]
 cases kU rp x 0 x.size<;>rfl
theorem PZ{x:ByteArray}(h:x.size<9223372036854775808):B6 x:=Iu Iw (x:=x) (by omega)
end Go.aG
namespace Go.aG
open Go Go.du
theorem gG(a b:ByteArray):ByteArray.size (ByteArray.append a b)=a.size+b.size:=ByteArray.size_append
theorem dK.p{n:Int}(h:dK n):vr n:=⟨h.1,by have:=h.2;omega⟩
theorem oR{n:Int}(aa: -1099511627776≤n)(af:n≤1099511627776):dK n:=⟨by omega,by omega⟩
structure p0 (v:cr):Prop where
 k:dK v.kind
 n:dK v.n
 s:bD v.s
theorem P0{v:cr}(h:fL v≠0):mP v=fD 0:=by
 unfold mP
 rw[show(fL v != 0)=true by simpa using h]
 rfl
theorem P1{s:ByteArray}(h:s.size≤60):bD s:=by unfold bD;omega
theorem P2{s:ByteArray}(h:s.size≤60):(hl s).size≤70:=by
 rw[BX (P1 h),ByteArray.size_append]
 have:=vl (u:=j1 s.size)
 omega
theorem cg:dK 0:=oR (by decide) (by decide)
theorem P3(v:cr):(mP v).size≤80:=by
 have aP:=mJ cg
 by_cases h:fL v=0
 ·have hc:mF v=0:=by rw[←yk];exact h
  unfold mP;rw[show(fL v != 0)=false by simpa using h]
  rcases PF hc with⟨aa,af,ar⟩|⟨aa,af,ar,aQ⟩|⟨aa,af,ar⟩
  ·rw[aa]
   show(fD 0).size≤80;omega
  ·have hn:=mJ (oR ar aQ)
   rcases aa with aa|aa|aa
   ·rw[aa]
    show(ByteArray.append (fD 1) (fD v.n)).size≤80;rw[gG]
    have:=mJ (n:=1) (oR (by decide) (by decide))
    omega
   ·rw[aa]
    show(ByteArray.append (fD 2) (fD v.n)).size≤80;rw[gG]
    have:=mJ (n:=2) (oR (by decide) (by decide))
    omega
   ·rw[aa]
    show(ByteArray.append (fD 3) (fD v.n)).size≤80;rw[gG]
    have:=mJ (n:=3) (oR (by decide) (by decide))
    omega
  ·have ah:=P2 ar
   rw[aa];show(ByteArray.append (fD 4) (hl v.s)).size≤80;rw[gG]
   have:=mJ (n:=4) (oR (by decide) (by decide))
   omega
 ·rw[P0 h]
  omega
def yw(k n:Int)(s:ByteArray)(b:Bool):Prop:=(b=true→(mI n∧(fD k).size+(fD n).size≤9223372036854775807))∧(b=false→((k==4)=true→(pV s∧(fD k).size+(hl s).size≤9223372036854775807)))
theorem P4{v:cr}(av:p0 v):B7 v:=by
 have key: ∀(k n:Int) (s:ByteArray),dK k→dK n→bD s→(mI k)∧((k==1)=true→yw k n s (k==1))∧((k==1)=false→((k==2)=true→yw k n s (k==2))∧((k==2)=false→yw k n s (k==3))):=by
  intro k n s aj hn ah
  have bN:=mJ aj
  have a2:=mJ hn
  have a3:=vm ah
  have ai: ∀b,yw k n s b:=fun b=>⟨fun _=>⟨sT hn,by omega⟩,fun _ _=>⟨vn ah,by omega⟩⟩
  exact⟨sT aj,fun _=>ai _,fun _=>⟨fun _=>ai _,fun _=>ai _⟩⟩
 exact⟨fun _=>key 0 0 ⟨#[]⟩ cg cg (by unfold bD;exact Nat.zero_le _),fun _=>key v.kind v.n v.s av.k av.n av.s⟩
structure mQ (q:ew):Prop where
 k:dK q.kind
 n:dK q.ec
 d:dK q.key.dev
 c:bD q.key.bT
 a:bD q.key.attr
 m:bD q.name
 v:p0 q.value
 t:bD q.text
theorem B8{q:ew}(h:mQ q):(fD q.kind).size≤10∧(fD q.ec).size≤10∧(fD q.key.dev).size≤10∧(hl q.key.bT).size≤140737488351242∧(hl q.key.attr).size≤140737488351242∧(hl q.name).size≤140737488351242∧(mP q.value).size≤80∧(hl q.text).size≤140737488351242:=
 ⟨mJ h.k,mJ h.n,mJ h.d,vm h.c,vm h.a,vm h.m,P3 _,vm h.t⟩
theorem yx{q:ew}(h:mQ q):dF (m20 q):=by
 obtain⟨aa,af,ar,aQ,bx,ct,dw,ho⟩:=B8 h
 have Ix:(mP ⟨q.value.kind,q.value.n,q.value.s⟩).size≤80:=dw
 unfold dF m20
 simp only[gG]
 omega
theorem Iy{q:ew}(h:mQ q):yy q:=by
 obtain⟨aa,af,ar,aQ,bx,ct,dw,ho⟩:=B8 h
 have Ix:(mP ⟨q.value.kind,q.value.n,q.value.s⟩).size≤80:=dw
 refine⟨sT h.k,sT h.n,?_,sT h.d,?_,vn h.c,?_,vn h.a,?_,vn h.m,?_,P4 h.v,?_,vn h.t,?_⟩<;>(try simp only[gG])<;>omega
end Go.aG
namespace Go.aG
open Go Go.du
theorem vt(x:ByteArray)(z:Int): ∃n:Nat,aK x z=(n:Int)∧n<256:=⟨_,rfl,UInt8.toNat_lt _⟩
noncomputable def rq(c:Int):List Int:=dc.den .eY (kq c)
theorem Iz: ∀n:Nat,n<256→(rq (n:Int)).length≤4:=by decide+kernel
theorem P5: ∀n:Nat,n<256→(0≤bK .shr .u8 (n:Int) 4∧bK .shr .u8 (n:Int) 4≤IntKind.wrap .u8 (bK .shr .u8 (n:Int) 4+1)∧IntKind.wrap .u8 (bK .shr .u8 (n:Int) 4+1)≤16)∧
 (0≤bK .and .u8 (n:Int) 15∧bK .and .u8 (n:Int) 15≤IntKind.wrap .u8 (bK .and .u8 (n:Int) 15+1)∧IntKind.wrap .u8 (bK .and .u8 (n:Int) 15+1)≤16):=by decide+kernel
theorem yz{b:ByteArray}{a c:Option Int}:(bh b a c).size≤b.size:=by
 cases a<;>cases c<;>simp only[bh,ByteArray.size_extract]<;>omega
theorem B9{n:Nat}(h:n<256):rr (n:Int):=by
 obtain⟨aa,af⟩:=P5 n h
 have aC:ByteArray.size (⟨#[48,49,50,51,52,53,54,55,56,57,97,98,99,100,101,102]⟩:ByteArray)=16:=rfl
 have a6:ByteArray.size (⟨#[92,120]⟩:ByteArray)=2:=rfl
 have ck:ByteArray.size (⟨#[92]⟩:ByteArray)=1:=rfl
 refine⟨fun _=>?_,fun _ _=>⟨?_,?_,?_,?_⟩⟩
 ·rw[ck]
  show 1+(bytesOf [(n:Int)]).size≤_;rw[vi];show 1+1≤_;omega
 ·rw[aC]
  exact aa
 ·rw[a6]
  have:=yz (b:=⟨#[48,49,50,51,52,53,54,55,56,57,97,98,99,100,101,102]⟩) (a:=some (bK .shr .u8 (n:Int) 4)) (c:=some (IntKind.wrap .u8 (bK .shr .u8 (n:Int) 4+1)))
  rw[aC]at this;omega
 ·rw[aC]
  exact af
 ·have bN:=yz (b:=⟨#[48,49,50,51,52,53,54,55,56,57,97,98,99,100,101,102]⟩) (a:=some (bK .shr .u8 (n:Int) 4)) (c:=some (IntKind.wrap .u8 (bK .shr .u8 (n:Int) 4+1)))
  have a2:=yz (b:=⟨#[48,49,50,51,52,53,54,55,56,57,97,98,99,100,101,102]⟩) (a:=some (bK .and .u8 (n:Int) 15)) (c:=some (IntKind.wrap .u8 (bK .and .u8 (n:Int) 15+1)))
  rw[aC]at bN a2;rw[gG,a6];omega
def lv(f:Nat→List Int):Nat→Nat→List Int
 |_,0=>[]
 |k,n+1=>f k++lv f (k+1) n
theorem Ca{R:Type}{f:Nat→List Int}{b:Nat→List Int→Step R (List Int)}: ∀(n k:Nat) (a:List Int),(∀i v,i<k+n→b i v= .bP (v++f i))→bS b k n a= .inr (a++lv f k n)
 |0,_,a,_=>by rw[lv,List.append_nil];rfl
 |n+1,k,a,h=>by
  unfold bS;rw[h k a (by omega)]
  show bS b (k+1) n (a++f k)=_;rw[Ca n (k+1) (a++f k) (fun i v hi=>h i v (by omega)),lv,List.append_assoc]
theorem P6:dc.den .eY (⟨#[34]⟩:ByteArray)=[34]:=rfl
noncomputable def lx(x:ByteArray):ByteArray:=bytesOf (([34]++lv (fun i=>rq (aK x (i:Int))) 0 x.size)++[34])
theorem yA(x:ByteArray):yB x=lx x:=by
 unfold yB lx
 dsimp only
 rw[Int.toNat_natCast,P6]
 show Sum.elim _ _ (bS (fun(i4:Nat) (aF:List Int)=>(Step.bP (aF++rq (aK x (i4:Int))):Step ByteArray (List Int))) 0 x.size [34])=_
 rw[Ca (f:=fun i=>rq (aK x (i:Int))) x.size 0 [34] (fun i v _=>rfl)]
 rfl
theorem P7{x:ByteArray}(h:x.size≤1000000):Cb x:=by
 have P8:(dc.den .eY (⟨#[34]⟩:ByteArray)).length=1:=rfl
 refine⟨⟨?_,?_⟩,⟨by omega,by omega⟩,fun i d=>d.length≤1+4*i,?_,fun i d hi hd=>?_,fun c hc=>?_⟩
 ·show 0+1≤maxLen;unfold maxLen;omega
 ·show(0+1)*1≤_;omega
 ·show(dc.den .eY (⟨#[34]⟩:ByteArray)).length≤1+4*0;rw[P8];omega
 ·obtain⟨n,hn,ad⟩:=vt x (i:Int)
  have hi:i<x.size:=by rwa[Int.toNat_natCast]at hi
  have hd:d.length≤1+4*i:=hd
  have an:(dc.den .eY (kq (aK x (i:Int)))).length≤4:=by rw[hn];exact Iz n ad
  refine⟨by rw[hn];exact B9 ad,⟨?_,?_⟩,?_⟩
  ·show d.length+(dc.den .eY (kq (aK x (i:Int)))).length≤maxLen;unfold maxLen;omega
  ·show(d.length+(dc.den .eY (kq (aK x (i:Int)))).length)*1≤_;omega
  ·show(d++dc.den .eY (kq (aK x (i:Int)))).length≤1+4*(i+1)
   rw[List.length_append];omega
 ·have hc:c.length≤1+4*Int.toNat (x.size:Int):=hc
  rw[Int.toNat_natCast]at hc;refine⟨?_,?_⟩
  ·show c.length+1≤maxLen;unfold maxLen;omega
  ·show(c.length+1)*1≤_;omega
theorem p1(n:Int):(m21 n).size≤21:=P9 n
theorem IA{v:cr}(hn:dK v.n):yC v:=by
 have:=p1 v.n
 have Qa:ByteArray.size (⟨#[35]⟩:ByteArray)=1:=rfl
 refine fun hc _=>⟨fun _=>hn.p,fun _=>⟨fun _=>⟨hn.p,?_⟩,fun _ aQ=>?_⟩⟩
 ·rw[Qa];omega
 ·have hc:mF v=0:=by rw[←yk];exact H3 hc
  have:=BU hc
  exact P7 (by omega)
theorem Cc{f:Nat→List Int}{c:Nat}: ∀(n k:Nat),(∀i,(f i).length≤c)→(lv f k n).length≤c*n
 |0,_,_=>by simp[lv]
 |n+1,k,h=>by
  have aa:=h k
  have af:=Cc n (k+1) h
  rw[lv,List.length_append,Nat.mul_succ];omega
theorem IB(x:ByteArray):(lx x).size≤4*x.size+2:=by
 unfold lx
 rw[vi,List.length_append,List.length_append]
 have:=Cc (f:=fun i=>rq (aK x (i:Int))) (c:=4) x.size 0 (fun i=>by
  obtain⟨n,hn,h⟩:=vt x (i:Int);show(rq (aK x (i:Int))).length≤4;rw[hn]
  exact Iz n h)
 simp
 omega
theorem IC(v:cr):(m17 v).size≤250:=by
 by_cases h:fL v=0
 ·have hc:mF v=0:=by rw[←yk];exact h
  have hd:=p1 v.n
  have aH:=IB v.s
  have ah:=BU hc
  unfold m17;simp only[cond_eq_ite]
  repeat' split
  all_goals first
   |decide
   |omega
   |(rw[gG];show 1+(m21 v.n).size≤250;omega)
   |(rw[yA];omega)
 ·unfold m17
  rw[show(fL v != 0)=true by simpa using h]
  exact Nat.zero_le _
end Go.aG
namespace Go.aG
open Go Go.du
theorem Qb: ∀n:Nat,n<256→(0≤bK .shr .u8 (n:Int) 4∧bK .shr .u8 (n:Int) 4<16)∧(0≤bK .and .u8 (n:Int) 15∧bK .and .u8 (n:Int) 15<16)∧(0≤bK .quo .u8 (n:Int) 16∧bK .quo .u8 (n:Int) 16<16)∧(0≤bK .rem .u8 (n:Int) 16∧bK .rem .u8 (n:Int) 16<16):=by decide+kernel
def sY(c:Int):List Int:=[aK (⟨#[48,49,50,51,52,53,54,55,56,57,97,98,99,100,101,102]⟩:ByteArray) (bK .quo .u8 c 16),aK (⟨#[48,49,50,51,52,53,54,55,56,57,97,98,99,100,101,102]⟩:ByteArray) (bK .rem .u8 c 16)]
def yD:List Int:=[48,49,50,51,52,53,54,55,56,57,97,98,99,100,101,102]
theorem Qc: ∀n:Nat,n<256→[gU yD (Int.toNat (bK .shr .u8 (n:Int) 4)),gU yD (Int.toNat (bK .and .u8 (n:Int) 15))]=sY (n:Int):=by decide+kernel
def l8(x:ByteArray):ByteArray:=bytesOf (lv (fun i=>sY (aK x (i:Int))) 0 x.size)
theorem ID(x:ByteArray):m19 x=l8 x:=by
 have:m19 x=Sum.elim (fun r=>r) (fun cG=>bytesOf cG) (bS (fun(i:Nat) (aF:List Int)=>(Step.bP (List.append aF [gU yD (Int.toNat (bK .shr .u8 (aK x (i:Int)) 4)),gU yD (Int.toNat (bK .and .u8 (aK x (i:Int)) 15))]):Step ByteArray (List Int))) 0 x.size []):=by kernel_rfl
 rw[this,Ca (f:=fun i=>sY (aK x (i:Int))) x.size 0 [] (fun i v _=>?_)]
 ·rfl
 ·obtain⟨n,hn,h⟩:=vt x (i:Int)
  rw[hn,Qc n h];rfl
theorem IE(x:ByteArray):(l8 x).size≤2*x.size:=by
 unfold l8
 rw[vi]
 exact Cc (f:=fun i=>sY (aK x (i:Int))) (c:=2) x.size 0 (fun _=>Nat.le_refl _)
theorem Qd{d l:List Int}{k:Nat}(hd:d.length≤2*k)(an:l.length≤2)(aj:k<1000001):(List.length d+List.length l≤maxLen∧(List.length d+List.length l)*1≤140737488355328)∧(List.append d l).length≤2*(k+1):=by
 refine⟨⟨by unfold maxLen;omega,by omega⟩,?_⟩
 show(d++l).length≤_
 rw[List.length_append]
 omega
theorem Qe{x:ByteArray}(h:x.size≤1000000):Cd x:=by
 refine⟨by decide,by decide,by decide,by decide,by decide,by decide,by decide,by decide,by decide,by decide,by decide,by decide,by decide,by decide,by decide,by decide,?_,⟨by omega,by omega⟩,fun i d=>d.length≤2*i,Nat.zero_le _,fun i d hi hd=>?_⟩
 ·rw[eM _ (by omega) (by omega)]
  unfold maxLen;omega
 ·have hi:i<x.size:=by rwa[Int.toNat_natCast]at hi
  obtain⟨n,hn,ad⟩:=vt x (i:Int);obtain⟨fc,ey,_,_⟩:=Qb n ad;rw[hn];exact⟨fc,fc,ey,ey,Qd hd (Nat.le_refl _) (by omega)⟩
theorem Qf(k:Int):k=2∨k=13∨k=3∨k=12∨k=8∨k=9∨k=14∨k=11∨((k==2)=false∧(k==13)=false∧(k==3)=false∧(k==12)=false∧(k==8)=false∧(k==9)=false∧(k==14)=false∧(k==11)=false):=by
 simp only[beq_eq_false_iff_ne]
 omega
theorem Qg{α:Type}{c:Bool}{a b d:α}(h:b=d):(bif c then a else b)=(bif c then a else d):=by rw[h]
def dA(lo n m:Int):Bool:=(((decide (n<lo))||(decide (n>1099511627776)))||(decide (m<0)))||(decide (m>1099511627776))
def hZ(d:Int):Bool:=(decide (d<1))||(decide (d>250))
def vu:List ByteArray:=([⟨#[116,105,99,107]⟩,⟨#[115,101,110,115,101]⟩,⟨#[101,118,101,110,116]⟩,⟨#[110,111,105,115,101]⟩,⟨#[113,117,105,101,116]⟩,⟨#[111,102,102]⟩,⟨#[111,110]⟩,⟨#[99,117,116]⟩,⟨#[106,111,105,110]⟩,⟨#[99,114,97,115,104]⟩,⟨#[99,108,111,99,107]⟩,⟨#[97,115,107]⟩,⟨#[101,110,101,114,103,121]⟩,⟨#[109,111,118,101]⟩,⟨#[108,111,115,101]⟩,⟨#[116,119,105,99,101]⟩]:List ByteArray)
noncomputable def h0(k:Int):ByteArray:=List.getD vu (Int.toNat (IntKind.wrap .i64 (k-1))) (ed .str)
theorem IF(k:Int)(h:((decide (k<1))||(decide (k>16)))=false):gU ([⟨#[116,105,99,107]⟩,⟨#[115,101,110,115,101]⟩,⟨#[101,118,101,110,116]⟩,⟨#[110,111,105,115,101]⟩,⟨#[113,117,105,101,116]⟩,⟨#[111,102,102]⟩,⟨#[111,110]⟩,⟨#[99,117,116]⟩,⟨#[106,111,105,110]⟩,⟨#[99,114,97,115,104]⟩,⟨#[99,108,111,99,107]⟩,⟨#[97,115,107]⟩,⟨#[101,110,101,114,103,121]⟩,⟨#[109,111,118,101]⟩,⟨#[108,111,115,101]⟩,⟨#[116,119,105,99,101]⟩]:List ByteArray) (Int.toNat (IntKind.wrap .i64 (k-1)))=h0 k:=by
 simp only[Bool.or_eq_false_iff,decide_eq_false_iff_not]at h
 have:k=1∨k=2∨k=3∨k=4∨k=5∨k=6∨k=7∨k=8∨k=9∨k=10∨k=11∨k=12∨k=13∨k=14∨k=15∨k=16:=by omega
 rcases this with rfl|rfl|rfl|rfl|rfl|rfl|rfl|rfl|rfl|rfl|rfl|rfl|rfl|rfl|rfl|rfl<;>rfl
def j3(x:iQ)(d:ew × Int):Bool:=
 (d.2 != 0)|| !(bif d.1.kind==x.request.kind then bif d.1.ec==x.request.ec then bif d.1.key.dev==x.request.key.dev then bif bR d.1.key.bT x.request.key.bT then bif bR d.1.key.attr x.request.key.attr then bif bR d.1.name x.request.name then bif d.1.value.kind==x.request.value.kind then bif d.1.value.n==x.request.value.n then bif bR d.1.value.s x.request.value.s then bR d.1.text x.request.text else false else false else false else false else false else false else false else false else false)
noncomputable def yE(x:iQ):Bool:=j3 x (j2 (m20 x.request))|| !(seen x.token)
noncomputable def nX(a:aT):ByteArray × Int:=
 bif(a.kind==2)||(a.kind==13)then
  bif dA 0 a.n a.m then(⟨#[]⟩,2)else bif hZ a.key.dev then(⟨#[]⟩,2)else bif(!(valid a.key.bT)|| !(valid a.key.attr))then(⟨#[]⟩,10)else bif(fL a.value != 0)then(⟨#[]⟩,fL a.value)else bif(a.value.kind==0)then(⟨#[]⟩,4)else
   (ByteArray.append (ByteArray.append (ByteArray.append (ByteArray.append (h0 a.kind) ⟨#[32]⟩) (m18 a.key.dev a.key.bT a.key.attr)) ⟨#[32]⟩) (m17 a.value),0)
 else bif(a.kind==3)then
  bif dA 0 a.n a.m then(⟨#[]⟩,2)else bif hZ a.event.dev then(⟨#[]⟩,2)else bif(!(valid a.event.bT)|| !(valid a.event.name))then(⟨#[]⟩,10)else
   (ByteArray.append (ByteArray.append (h0 a.kind) ⟨#[32]⟩) (m18 a.event.dev a.event.bT a.event.name),0)
 else bif(a.kind==12)then
  bif dA 0 a.n a.m then(⟨#[]⟩,2)else bif yE a.asked then(⟨#[]⟩,4)else
   (ByteArray.append (ByteArray.append (ByteArray.append (ByteArray.append (h0 a.kind) ⟨#[32]⟩) a.asked.token) ⟨#[32]⟩) (l8 (m20 a.asked.request)),0)
 else bif(a.kind==8)||(a.kind==9)then
  bif dA 0 a.n a.m then(⟨#[]⟩,2)else(ByteArray.append (ByteArray.append (ByteArray.append (ByteArray.append (h0 a.kind) ⟨#[32]⟩) (m21 a.n)) ⟨#[32]⟩) (m21 a.m),0)
 else bif(a.kind==14)then
  bif dA 0 a.n a.m then(⟨#[]⟩,2)else(h0 a.kind,0)
 else
  bif dA (bif(a.kind==11)then -1 else 0) a.n a.m then(⟨#[]⟩,2)else(ByteArray.append (ByteArray.append (h0 a.kind) ⟨#[32]⟩) (m21 a.n),0)
noncomputable def vv(v4 x0:aT):Bool:=!(bif v4.kind==x0.kind then bif v4.n==x0.n then bif v4.m==x0.m then bif v4.key.dev==x0.key.dev then bif bR v4.key.bT x0.key.bT then bif bR v4.key.attr x0.key.attr then bif v4.value.kind==x0.value.kind then bif v4.value.n==x0.value.n then bif bR v4.value.s x0.value.s then bif v4.event.dev==x0.event.dev then bif bR v4.event.bT x0.event.bT then bif bR v4.event.name x0.event.name then bif bR v4.asked.token x0.asked.token then bif v4.asked.request.kind==x0.asked.request.kind then bif v4.asked.request.ec==x0.asked.request.ec then bif v4.asked.request.key.dev==x0.asked.request.key.dev then bif bR v4.asked.request.key.bT x0.asked.request.key.bT then bif bR v4.asked.request.key.attr x0.asked.request.key.attr then bif bR v4.asked.request.name x0.asked.request.name then bif v4.asked.request.value.kind==x0.asked.request.value.kind then bif v4.asked.request.value.n==x0.asked.request.value.n then bif bR v4.asked.request.value.s x0.asked.request.value.s then bR v4.asked.request.text x0.asked.request.text else false else false else false else false else false else false else false else false else false else false else false else false else false else false else false else false else false else false else false else false else false else false)
noncomputable def fj(a:aT):ByteArray × Int:=
 bif((decide (a.kind<1))||(decide (a.kind>16)))then(⟨#[]⟩,7)else bif vv (m13 a) a then(⟨#[]⟩,1)else nX a
structure gF (a:aT):Prop where
 k:dK a.kind
 n:dK a.n
 m:dK a.m
 Qh:dK a.key.dev
 IG:bD a.key.bT
 IH:bD a.key.attr
 v:p0 a.value
 Qi:dK a.event.dev
 II:bD a.event.bT
 IJ:bD a.event.name
 t:bD a.asked.token
 q:mQ a.asked.request
theorem Ce{a:aT}(aI:gF a):m6 a=fj a:=by
 obtain⟨k,n,m,key,value,event,asked⟩:=a
 unfold m6 fj
 cases aj:((decide (k<1))||(decide (k>16)))with
 |true=>rfl
 |false=>
  simp only[cond_false]
  have hw:=IF k aj
  show(bif vv (m13 ⟨k,n,m,key,value,event,asked⟩) ⟨k,n,m,key,value,event,asked⟩then _ else _)=_
  refine Qg ?_
  rw[hw];clear aj hw
  have aB:asked.token.size<9223372036854775808:=by have:=aI.t;unfold bD at this;simp only at this;omega
  have Qj:dF (m20 asked.request):=yx aI.q
  have yF: ∀k,k=2∨k=13→m14 ⟨k,n,m,key,value,event,asked⟩=(bif dA 0 n m then 2 else bif hZ key.dev then 2 else 0)∧
   m15 ⟨k,n,m,key,value,event,asked⟩=(bif !(m32 key.bT)then(bif(!(m32 key.bT)|| !false)then 10 else bif(fL value != 0)then fL value else bif(value.kind==0)then 4 else 0)else(bif(!(m32 key.bT)|| !(m32 key.attr))then 10 else bif(fL value != 0)then fL value else bif(value.kind==0)then 4 else 0)):=by
   intro k aj
   rcases aj with rfl|rfl<;>exact⟨rfl,rfl⟩
  rcases Qf k with h|h|h|h|h|h|h|h|⟨aa,af,ar,aQ,bx,ct,dw,ho⟩
  ·subst h
   rw[(yF 2 (.inl rfl)).1,(yF 2 (.inl rfl)).2,sV,sV];show(bif(bif dA 0 n m then(2:Int)else bif hZ key.dev then 2 else 0) != 0 then _ else _)=(bif dA 0 n m then _ else _)
   show _=(bif dA 0 n m then _ else bif hZ key.dev then _ else bif(!(valid key.bT)|| !(valid key.attr))then _ else bif(fL value != 0)then _ else bif(value.kind==0)then _ else _)
   generalize fL value=e
   cases dA 0 n m
   ·cases hZ key.dev
    ·cases valid key.bT
     ·rfl
     ·cases valid key.attr
      ·rfl
      ·cases bx:(e != 0)
       ·cases (value.kind==0)<;>rfl
       ·show(bif(e != 0)then _ else _)=_
        rw[bx];rfl
    ·rfl
   ·rfl
  ·subst h
   rw[(yF 13 (.inr rfl)).1,(yF 13 (.inr rfl)).2,sV,sV];show(bif(bif dA 0 n m then(2:Int)else bif hZ key.dev then 2 else 0) != 0 then _ else _)=(bif dA 0 n m then _ else _)
   show _=(bif dA 0 n m then _ else bif hZ key.dev then _ else bif(!(valid key.bT)|| !(valid key.attr))then _ else bif(fL value != 0)then _ else bif(value.kind==0)then _ else _)
   generalize fL value=e
   cases dA 0 n m
   ·cases hZ key.dev
    ·cases valid key.bT
     ·rfl
     ·cases valid key.attr
      ·rfl
      ·cases bx:(e != 0)
       ·cases (value.kind==0)<;>rfl
       ·show(bif(e != 0)then _ else _)=_
        rw[bx];rfl
    ·rfl
   ·rfl
  ·subst h
   have ly:m14 ⟨3,n,m,key,value,event,asked⟩=bif dA 0 n m then 2 else bif hZ event.dev then 2 else 0:=rfl
   have ru:m15 ⟨3,n,m,key,value,event,asked⟩=bif !(m32 event.bT)then(bif(!(m32 event.bT)|| !false)then 10 else 0)else(bif(!(m32 event.bT)|| !(m32 event.name))then 10 else 0):=rfl
   rw[ly,ru,sV,sV];show(bif(bif dA 0 n m then(2:Int)else bif hZ event.dev then 2 else 0) != 0 then _ else _)=(bif dA 0 n m then _ else _)
   cases dA 0 n m<;>cases hZ event.dev<;>cases valid event.bT<;>cases valid event.name<;>rfl
  ·subst h
   have ly:m14 ⟨12,n,m,key,value,event,asked⟩=bif dA 0 n m then 2 else 0:=by
    have:m14 ⟨12,n,m,key,value,event,asked⟩=bif dA 0 n m then 2 else bif hZ 1 then 2 else 0:=rfl
    rw[this];rfl
   have ru:m15 ⟨12,n,m,key,value,event,asked⟩=bif j3 asked (iP (m20 asked.request))then(bif(j3 asked (iP (m20 asked.request))|| !false)then 4 else 0)else(bif(j3 asked (iP (m20 asked.request))|| !(sX asked.token))then 4 else 0):=by kernel_rfl
   rw[ly,ru,yt Qj,PY aB];simp only[ID];show(bif(bif dA 0 n m then(2:Int)else 0) != 0 then _ else _)=(bif dA 0 n m then _ else bif(j3 asked (j2 (m20 asked.request))|| !(seen asked.token))then _ else _)
   cases dA 0 n m<;>cases j3 asked (j2 (m20 asked.request))<;>cases seen asked.token<;>rfl
  ·subst h
   have ly:m14 ⟨8,n,m,key,value,event,asked⟩=bif dA 0 n m then 2 else 0:=by
    have:m14 ⟨8,n,m,key,value,event,asked⟩=bif dA 0 n m then 2 else bif hZ 1 then 2 else 0:=rfl
    rw[this];rfl
   rw[ly];show(bif(bif dA 0 n m then(2:Int)else 0) != 0 then _ else _)=(bif dA 0 n m then _ else _)
   cases dA 0 n m<;>rfl
  ·subst h
   have ly:m14 ⟨9,n,m,key,value,event,asked⟩=bif dA 0 n m then 2 else 0:=by
    have:m14 ⟨9,n,m,key,value,event,asked⟩=bif dA 0 n m then 2 else bif hZ 1 then 2 else 0:=rfl
    rw[this];rfl
   rw[ly];show(bif(bif dA 0 n m then(2:Int)else 0) != 0 then _ else _)=(bif dA 0 n m then _ else _)
   cases dA 0 n m<;>rfl
  ·subst h
   have ly:m14 ⟨14,n,m,key,value,event,asked⟩=bif dA 0 n m then 2 else 0:=by
    have:m14 ⟨14,n,m,key,value,event,asked⟩=bif dA 0 n m then 2 else bif hZ 1 then 2 else 0:=rfl
    rw[this];rfl
   rw[ly];show(bif(bif dA 0 n m then(2:Int)else 0) != 0 then _ else _)=(bif dA 0 n m then _ else _)
   cases dA 0 n m<;>rfl
  ·subst h
   have ly:m14 ⟨11,n,m,key,value,event,asked⟩=bif dA (-1) n m then 2 else 0:=by
    have:m14 ⟨11,n,m,key,value,event,asked⟩=bif dA (-1) n m then 2 else bif hZ 1 then 2 else 0:=rfl
    rw[this];rfl
   rw[ly];show(bif(bif dA (-1) n m then(2:Int)else 0) != 0 then _ else _)=(bif dA (-1) n m then _ else _)
   cases dA (-1) n m<;>rfl
  ·have ly:m14 ⟨k,n,m,key,value,event,asked⟩=bif dA 0 n m then 2 else 0:=by
    have:m14 ⟨k,n,m,key,value,event,asked⟩=bif dA 0 n m then 2 else bif hZ 1 then 2 else 0:=by
     unfold m14;simp only[aa,af,ar,ho,cond_false];rfl
    rw[this];rfl
   have ru:m15 ⟨k,n,m,key,value,event,asked⟩=0:=by
    unfold m15;simp only[aa,af,ar,aQ,cond_false]
   rw[ly,ru];unfold nX;simp only[aa,af,ar,aQ,bx,ct,dw,ho,cond_false,Bool.or_self]
   cases dA 0 n m<;>rfl
end Go.aG
namespace Go.aG
open Go Go.du
theorem Qk(r:Rd)(n:Int)(hn:0≤n):(gT r n).1≤n:=by
 unfold gT
 cases cW:((kp ((cR r).2)) != 0)with
 |true=>exact hn
 |false=>
  simp only[cond_false]
  cases gi:decide ((cR r).1<0)with
  |true=>exact hn
  |false=>
   simp only[cond_false]
   cases lq:decide ((cR r).1>(if 0>n then 0 else n))with
   |true=>exact hn
   |false=>
    have lq:=of_decide_eq_false lq
    rw[if_neg (by omega)]at lq
    simp only[cond_false];omega
theorem vw(r:Rd)(n:Int)(hn:0≤n):((jZ r n).1.size:Int)≤n:=by
 have h:=Qk r n hn
 have aP:=Ik r n
 unfold jZ
 simp only[cond_eq_ite]
 repeat' split
 ·exact hn
 ·exact hn
 ·show((ByteArray.size (ByteArray.extract _ 0 _):Nat):Int)≤n
  rw[ByteArray.size_extract];omega
theorem Ql{x:iQ}{s:ByteArray}(h:j3 x (j2 s)=false):x.request.key.bT.size≤24∧x.request.key.attr.size≤24∧x.request.name.size≤24∧x.request.text.size≤20000:=by
 unfold j3 at h
 rw[Bool.or_eq_false_iff,Bool.not_eq_false']at h
 obtain⟨aa,af⟩:=h
 have e:j2 s=(gH s,0):=by
  revert aa;unfold j2
  split
  ·rename_i h
   intro aa;exact absurd (by simpa using aa) h
  ·split
   ·intro aa
    exact absurd aa (by decide)
   ·split
    ·intro aa
     exact absurd aa (by decide)
    ·intro _
     rfl
 rw[e]at af
 unfold gH at af
 simp only[cond_eq_ite,Bool.if_false_right,Bool.and_eq_true,decide_eq_true_eq,sZ,Bool.decide_eq_true]at af
 obtain⟨_,_,_,ar,aQ,bx,_,_,_,ct⟩:=af
 rw[←ar,←aQ,←bx,←ct]
 have t1:=vw (mK s).2 24 (by decide)
 have t2:=vw (mL s).2 24 (by decide)
 have t3:=vw (mM s).2 24 (by decide)
 have t4:((lr s).1.size:Int)≤20000:=by
  unfold lr;exact vw _ _ (by decide)
 have t4:(lr s).1.size≤20000:=by omega
 refine⟨Int.ofNat_le.1 t1,Int.ofNat_le.1 t2,Int.ofNat_le.1 t3,?_⟩
 exact t4
theorem yG{s:ByteArray}(h:bD s):(hl s).size≤s.size+10:=by
 rw[BX h,PM]
 have:=vl (u:=j1 s.size)
 omega
theorem Cf{x:iQ}{s:ByteArray}(aI:mQ x.request)(h:j3 x (j2 s)=false):(m20 x.request).size≤1000000:=by
 obtain⟨bN,a2,a3,a4⟩:=Ql h
 obtain⟨aa,af,ar,_,_,_,dw,_⟩:=B8 aI
 have Ix:(mP ⟨x.request.value.kind,x.request.value.n,x.request.value.s⟩).size≤80:=dw
 have ez:=yG aI.c
 have gB:=yG aI.a
 have fE:=yG aI.m
 have l9:=yG aI.t
 unfold m20
 simp only[gG]
 omega
theorem yH(d:Int)(c n:ByteArray):(m18 d c n).size≤23+c.size+n.size:=by
 unfold m18
 have:=p1 d
 simp only[gG]
 have:ByteArray.size (⟨#[46]⟩:ByteArray)=1:=rfl
 omega
theorem IK{d:Int}{c n:ByteArray}(hd:dK d)(hc:bD c)(hn:bD n):yI d c n:=by
 have:=p1 d
 have e:ByteArray.size (⟨#[46]⟩:ByteArray)=1:=rfl
 unfold bD at hc hn
 refine⟨hd.p,?_,?_,?_,?_⟩<;>(try simp only[gG])<;>omega
theorem Qm{a:aT}(aI:gF a):yJ a:=by
 unfold yJ
 have aB:a.asked.token.size<9223372036854775808:=by have:=aI.t;unfold bD at this;omega
 intro aM
 have eL: ∀b,aM b:=by
  intro b;refine⟨fun _=>⟨yv _,fun _=>yv _⟩,fun _=>⟨fun _=>⟨yv _,fun _=>yv _⟩,fun _ _=>⟨Iy aI.q,Is (yx aI.q),fun _=>PZ aB⟩⟩⟩
 exact⟨fun _=>eL _,fun _=>eL _⟩
theorem IL(k:Int):(h0 k).size≤10:=by
 have: ∀i:Nat,(List.getD vu i (ed .str)).size≤10:=by
  intro i
  rcases Nat.lt_or_ge i 16 with h|h
  ·revert i
   decide+kernel
  ·rw[List.getD_eq_getElem?_getD,List.getElem?_eq_none (by exact h)]
   exact Nat.zero_le _
 exact this _
theorem Qn{k:Int}(h:((decide (k<1))||(decide (k>16)))=false):0≤IntKind.wrap .i64 (k-(1:Int))∧IntKind.wrap .i64 (k-(1:Int))<(16:Int):=by
 simp only[Bool.or_eq_false_iff,decide_eq_false_iff_not]at h
 rw[eM _ (by omega) (by omega)]
 omega
theorem vb{a:aT}(aI:gF a):rv a:=by
 obtain⟨k,n,m,key,value,event,asked⟩:=a
 have Qo:ByteArray.size (⟨#[32]⟩:ByteArray)=1:=rfl
 have Qp:=p1 n
 have sm:=p1 m
 have st:asked.token.size≤140737488351232:=aI.t
 have s0:(m18 key.dev key.bT key.attr).size≤300000000000000:=by
  have:=yH key.dev key.bT key.attr
  have aa:key.bT.size≤140737488351232:=aI.IG
  have af:key.attr.size≤140737488351232:=aI.IH
  omega
 have Yg:(m18 event.dev event.bT event.name).size≤300000000000000:=by
  have:=yH event.dev event.bT event.name
  have aa:event.bT.size≤140737488351232:=aI.II
  have af:event.name.size≤140737488351232:=aI.IJ
  omega
 have Qq:=IC value
 intro aj v4 v5 Yh v6 Yi bU
 refine⟨Qm aI,?_⟩
 intro yK v10 v11
 refine⟨Qn aj,?_⟩
 have Qr:v11.size≤10:=by
  have:=IL k
  rw[←IF k aj]at this;exact this
 intro aM
 have eL: ∀b,aM b:=by
  intro b;refine⟨fun _=>?_,fun _=>⟨fun _=>?_,fun _=>⟨fun s3=>?_,fun _=>?_⟩⟩⟩
  ·refine⟨?_,IK aI.Qh aI.IG aI.IH,?_,?_,IA aI.v.n,?_⟩
   ·omega
   ·have:(m16 ⟨key.dev,key.bT,key.attr⟩).size≤300000000000000:=s0
    simp only[gG];omega
   ·have:(m16 ⟨key.dev,key.bT,key.attr⟩).size≤300000000000000:=s0
    simp only[gG];omega
   ·have:(m16 ⟨key.dev,key.bT,key.attr⟩).size≤300000000000000:=s0
    have:(m17 ⟨value.kind,value.n,value.s⟩).size≤250:=Qq
    simp only[gG];omega
  ·refine⟨?_,IK aI.Qi aI.II aI.IJ,?_⟩
   ·omega
   ·simp only[gG];omega
  ·have s3:k=12:=by simpa using s3
   subst s3
   have ru:m15 ⟨12,n,m,key,value,event,asked⟩=bif j3 asked (iP (m20 asked.request))then(bif(j3 asked (iP (m20 asked.request))|| !false)then 4 else 0)else(bif(j3 asked (iP (m20 asked.request))|| !(sX asked.token))then 4 else 0):=by kernel_rfl
   have ae:j3 asked (j2 (m20 asked.request))=false:=by
    have yK:(m15 ⟨12,n,m,key,value,event,asked⟩ != 0)=false:=yK
    rw[ru,yt (yx aI.q)]at yK;revert yK
    cases j3 asked (j2 (m20 asked.request))
    ·exact fun _=>rfl
    ·intro h
     exact absurd h (show ¬((4:Int) != 0)=false by decide)
   have ah:(m20 asked.request).size≤1000000:=Cf aI.q ae
   have hx:(m19 (m20 asked.request)).size≤2*(m20 asked.request).size:=by rw[ID];exact IE _
   refine⟨?_,?_,?_,Iy aI.q,Qe ah,?_⟩
   ·omega
   ·simp only[gG];omega
   ·simp only[gG];omega
   ·show ByteArray.size _+(m19 (m20 asked.request)).size≤_
    simp only[gG];omega
  ·intro b8
   have vx: ∀b,b8 b:=by
    intro b;refine⟨fun _=>⟨?_,aI.n.p,?_,?_,aI.m.p,?_⟩,fun _ _=>⟨?_,aI.n.p,?_⟩⟩<;>(try simp only[gG])<;>omega
   exact⟨fun _=>vx _,fun _=>vx _⟩
 exact⟨fun _=>eL _,fun _=>eL _⟩
end Go.aG
namespace Go.aG
open Go Go.du
theorem yL(z:Int):dK (IntKind.wrap .i64 z):=by
 unfold dK
 simp[IntKind.wrap,IntKind.bits,IntKind.signed]
 omega
theorem p2(x:ByteArray)(c:Int): -1≤eA x c∧eA x c<(x.size:Int):=by
 show -1≤ry x c∧ry x c<(x.size:Int)
 unfold ry
 split
 ·rename_i i h
  have:=List.mem_of_find?_eq_some h
  rw[List.mem_range]at this;omega
 ·omega
theorem IM{R A B:Type}{Q:B→Prop}{f:R→B}{g:A→B}{l:R⊕A}(aa: ∀r,l= .inl r→Q (f r))(af: ∀a,l= .inr a→Q (g a)):Q (Sum.elim f g l):=by
 cases l with
 |inl r=>exact aa r rfl
 |inr a=>exact af a rfl
theorem Qs{R A:Type}{b:Nat→A→Step R A}{Q:R→Prop}(h: ∀i a r,b i a= .ret r→Q r): ∀(n k:Nat) (a:A) (r:R),bS b k n a= .inl r→Q r:=by
 intro n
 induction n with
 |zero=>intro k a r h;simp[bS]at h
 |succ n aO=>
  intro k a r ae;unfold bS at ae
  split at ae
  ·rename_i dW ad
   cases ae;exact h _ _ _ ad
  ·cases ae
  ·exact aO _ _ _ ae
theorem Qt{R A:Type}{b:A→Step R A}{Q:R→Prop}(h: ∀a r,b a= .ret r→Q r): ∀(n:Nat) (a:A) (r:R),b3 b n a= .inl r→Q r:=by
 intro n
 induction n with
 |zero=>intro a r h;simp[b3]at h
 |succ n aO=>
  intro a r ae;unfold b3 at ae
  split at ae
  ·rename_i dW ad
   cases ae;exact h _ _ ad
  ·cases ae
  ·exact aO _ _ ae
theorem Qu{R A:Type}{b:A→Step R A}{I:A→Prop}(h: ∀a,I a→(∀aW,b a= .bP aW→I aW)∧∀aW,b a= .b9 aW→I aW): ∀(n:Nat) (a aW:A),I a→b3 b n a= .inr aW→I aW:=by
 intro n
 induction n with
 |zero=>intro a aW b5 h;simp[b3]at h;exact h ▸ b5
 |succ n aO=>
  intro a aW b5 ae;unfold b3 at ae
  split at ae
  ·cases ae
  ·rename_i a2 ad
   cases ae;exact(h a b5).2 _ ad
  ·rename_i a2 ad
   exact aO _ _ ((h a b5).1 _ ad) ae
theorem Qv(v:Int): -1099511627776≤hq v∧hq v≤1099511627776:=by
 unfold hq
 have h: -1099511627776≤bW.den (.mx .i64) v ((-1099511627776):Int):=by
  show(-1099511627776:Int)≤(if(-1099511627776:Int)>v then(-1099511627776:Int)else v)
  split<;>omega
 generalize bW.den (.mx .i64) v ((-1099511627776):Int)=z at h⊢
 have h:(-1099511627776:Int)≤z:=h
 show -1099511627776≤(if(1099511627776:Int)<z then(1099511627776:Int)else z)∧(if(1099511627776:Int)<z then(1099511627776:Int)else z)≤1099511627776
 split<;>omega
theorem Qw{v:Int}(h:(hq v != v)=false):dK v:=by
 have e:hq v=v:=by simpa using h
 have:=Qv v
 rw[e]at this
 unfold dK
 omega
theorem nY(x:ByteArray):jD x:=by
 unfold jD
 intro v3 h
 simp only[Bool.or_eq_false_iff,beq_eq_false_iff_ne,decide_eq_false_iff_not]at h
 obtain⟨aa,af⟩:=h
 have af: ¬(x.size:Int)>14:=af
 refine⟨⟨by show(0:Int)≤(x.size:Int);omega,by show(x.size:Int)<_;omega⟩,?_⟩
 intro aR
 refine⟨fun _ d=>dK d,cg,?_,?_⟩
 ·intro i7 d0 _ hd aM v9
  exact⟨fun _=>yL _,fun _ _=>hd⟩
 ·intro cG hc
  exact⟨⟨Int.le_refl _,by omega⟩,fun _ _=>(yL _).p,fun _ _=>hc.p⟩
theorem p3(x:ByteArray):dK (fv x).1:=by
 have fin: ∀(v:Int) (w:ByteArray),dK (bif((hq v != v)||bm .neq w x)then((0:Int),false)else(v,true)).1:=by
  intro v w
  cases h:(hq v != v)
  ·cases bm .neq w x
   ·exact Qw h
   ·exact cg
  ·exact cg
 have oS: ∀v:Int,dK (bif(hq v != v)then(bif((hq v != v)||bm .neq (⟨#[]⟩:ByteArray) x)then((0:Int),false)else(v,true))else(bif((hq v != v)||bm .neq (m21 v) x)then((0:Int),false)else(v,true))).1:=by
  intro v
  cases h:(hq v != v)
  ·have:=fin v (m21 v)
   rw[h]at this;exact this
  ·exact cg
 unfold fv
 dsimp only
 cases ((((ByteArray.size x:Int)==0)||(decide ((ByteArray.size x:Int)>14))))with
 |true=>exact cg
 |false=>
  simp only[cond_false];refine IM (Q:=fun r:Int × Bool=>dK r.1) (fun r ae=>?_) (fun c _=>?_)
  ·have:r=(0,false):=by
    refine Qs (Q:=fun r=>r=(0,false)) ?_ _ _ _ _ ae
    intro i a r h;revert h
    cases ((decide ((aK x (i:Int))≥48))&&(decide ((aK x (i:Int))≤57)))
    ·simp only[cond_false]
     cases ((decide ((i:Int)>0))||((aK x (i:Int)) != 45))
     ·intro h;cases h
     ·intro h;cases h;rfl
    ·intro h;cases h
   rw[this];exact cg
  ·cases ((aK x (0:Int))==45)
   ·exact oS c
   ·exact oS _
theorem IN(z:Int):rr (IntKind.wrap .u8 z):=by
 have: ∃n:Nat,IntKind.wrap .u8 z=(n:Int)∧n<256:=by
  refine⟨(z%256).toNat,?_,by omega⟩
  simp[IntKind.wrap,IntKind.bits,IntKind.signed];omega
 obtain⟨n,e,h⟩:=this
 rw[e]
 exact B9 h
theorem Qx(x:ByteArray)(z:Int):rr (aK x z):=by
 obtain⟨n,e,h⟩:=vt x z
 rw[e]
 exact B9 h
theorem rz{x:ByteArray}(h:bm .eql x (⟨#[]⟩:ByteArray)=false):0<(x.size:Int):=by
 have h:bR x ⟨#[]⟩=false:=h
 rw[yM]at h
 rcases Nat.eq_zero_or_pos x.size with aP|aP
 ·exact absurd (ByteArray.ext (Array.eq_empty_of_size_eq_zero aP)) h
 ·omega
theorem Cg{x:ByteArray}(h:bm .neq x (⟨#[]⟩:ByteArray)=true):0<(x.size:Int):=by
 refine rz ?_
 have h:(!bR x ⟨#[]⟩)=true:=h
 show bR x ⟨#[]⟩=false
 simpa using h
theorem Qy(x:ByteArray):yN x:=by
 unfold yN
 intro v1
 refine⟨fun h=>⟨Int.le_refl _,rz h⟩,?_⟩
 intro h
 rw[Bool.or_eq_false_iff]at h
 have ah:=rz h.1
 refine⟨⟨Int.le_refl _,ah⟩,fun _=>⟨⟨Int.le_refl _,ah⟩,⟨by decide,by omega⟩,Qx _ _,fun _=>⟨Int.le_refl _,ah⟩⟩,fun _=>?_⟩
 intro bg bU
 have ho:bU=true→(2:Int)≤(x.size:Int):=fun h=>of_decide_eq_true h
 refine⟨fun h=>⟨by decide,by have:=ho h;omega⟩,?_⟩
 intro v10
 refine⟨fun h _=>⟨by decide,by have:=ho h;omega⟩,fun h=>⟨by decide,by have:=ho (Bool.and_eq_true _ _ ▸ h).1;omega⟩,fun _=>?_⟩
 intro fM
 have vy:fM=false→(4:Int)≤(x.size:Int):=fun h=>by
  have h: ¬(x.size:Int)<4:=of_decide_eq_false h
  omega
 refine⟨fun h=>⟨by decide,by have:=vy h;omega⟩,?_⟩
 intro fo
 have vz:fo=false→(4:Int)≤(x.size:Int):=fun h=>vy ((Bool.or_eq_false_iff.1 h).1)
 refine⟨fun h=>⟨by decide,by have:=vz h;omega⟩,?_⟩
 intro aM
 have eL: ∀z,aM z:=by
  intro z
  have s4:(fo||decide (z<0))=false→(4:Int)≤(x.size:Int):=fun h=>vz ((Bool.or_eq_false_iff.1 h).1)
  refine⟨fun h=>⟨by decide,by have:=s4 h;omega⟩,fun _ h=>?_,fun _ h=>?_⟩
  ·have aQ:=s4 ((Bool.or_eq_false_iff.1 h).1)
   exact⟨⟨by decide,by omega⟩,⟨by decide,by omega⟩,⟨by decide,by omega⟩,IN _⟩
  ·have aQ:=s4 ((Bool.or_eq_false_iff.1 h).1)
   exact⟨⟨by decide,by omega⟩,⟨by decide,by omega⟩,⟨by decide,by omega⟩,IN _⟩
 exact⟨fun _=>eL _,fun _=>eL _⟩
theorem Qz(x:ByteArray):0≤(fp x).2∧(fp x).2≤(x.size:Int):=by
 have aP:(0:Int)≤0∧(0:Int)≤(x.size:Int):=by omega
 unfold fp
 dsimp only
 cases h:((bm .eql x (⟨#[]⟩:ByteArray))||((aK x (0:Int))==34))with
 |true=>exact aP
 |false=>
  rw[Bool.or_eq_false_iff]at h
  have ah:=rz h.1
  simp only[cond_false]
  cases (aK x (0:Int) != 92)with
  |true=>
   simp only[cond_true]
   cases bm .neq (kq (aK x 0)) (bh x none (some 1))
   ·exact⟨show(0:Int)≤1 by decide,show(1:Int)≤_ by omega⟩
   ·exact aP
  |false=>
   simp only[cond_false]
   cases af:((decide ((x.size:Int)≥2))&&(((aK x (1:Int))==34)||((aK x (1:Int))==92)))with
   |true=>
    rw[Bool.and_eq_true]at af
    have af:(x.size:Int)≥2:=of_decide_eq_true af.1
    exact⟨show(0:Int)≤2 by decide,show(2:Int)≤_ by omega⟩
   |false=>
    simp only[cond_false]
    cases ar:((decide ((x.size:Int)<4))||((aK x (1:Int)) != 120))with
    |true=>exact aP
    |false=>
     rw[Bool.or_eq_false_iff]at ar
     have ar: ¬(x.size:Int)<4:=of_decide_eq_false ar.1
     simp only[cond_eq_ite]
     repeat' split
     all_goals first
      |exact aP
      |exact⟨show(0:Int)≤4 by decide,show(4:Int)≤_ by omega⟩
theorem QA{x:ByteArray}(hx:bD x):yO x:=by
 unfold bD at hx
 unfold yO
 intro v1
 refine⟨fun h=>⟨Int.le_refl _,rz h⟩,?_⟩
 intro h
 rw[Bool.or_eq_false_iff]at h
 have ah:=rz h.1
 refine⟨fun d=>1≤d.1∧d.1≤(x.size:Int)∧(d.2.1.length:Int)+1≤d.1,fun d=>x.size+1-d.1.toNat,⟨by decide,by show(1:Int)≤_;omega,by decide⟩,?_,?_⟩
 ·show x.size+1-Int.toNat 1<18446744073709551616
  omega
 ·intro d0 hd
  obtain⟨d1,d2,d3⟩:=hd;intro v9;refine⟨fun h=>⟨by omega,of_decide_eq_true h⟩,fun h=>?_⟩
  have bz:d0.1<(x.size:Int):=of_decide_eq_true (Bool.and_eq_true _ _ ▸ h).1
  have bA:(bh x (some d0.1) none).size=x.size-d0.1.toNat:=by
   show(ByteArray.extract x d0.1.toNat x.size).size=_;rw[ByteArray.size_extract];omega
  obtain⟨cB,c4⟩:=Qz (bh x (some d0.1) none);rw[bA]at c4;refine⟨⟨by omega,by omega⟩,Qy _,fun aP=>?_⟩
  have aP:(fp (bh x (some d0.1) none)).2≠0:=by simpa using aP
  intro aM
  have w:IntKind.wrap .i64 (d0.1+(fp (bh x (some d0.1) none)).2)=d0.1+(fp (bh x (some d0.1) none)).2:=eM _ (by omega) (by omega)
  have eL: ∀b,aM b:=by
   intro b
   have an: ∀v:Int,[v].length=1:=fun _=>rfl
   have rA: ∀v:Int,(List.append d0.2.1 [v]).length=d0.2.1.length+1:=by
    intro v;show(d0.2.1++[v]).length=_;rw[List.length_append];rfl
   refine⟨⟨?_,?_⟩,⟨?_,?_,?_⟩,?_⟩
   ·rw[an];unfold maxLen;omega
   ·rw[an];omega
   ·show 1≤IntKind.wrap .i64 (d0.1+(fp (bh x (some d0.1) none)).2)
    rw[w];omega
   ·show IntKind.wrap .i64 (d0.1+(fp (bh x (some d0.1) none)).2)≤_
    rw[w];omega
   ·show((List.append d0.2.1 [_]).length:Int)+1≤IntKind.wrap .i64 (d0.1+(fp (bh x (some d0.1) none)).2)
    rw[w,rA];omega
   ·show x.size+1-(IntKind.wrap .i64 (d0.1+(fp (bh x (some d0.1) none)).2)).toNat<x.size+1-d0.1.toNat
    rw[w];omega
  exact⟨fun _=>eL _,fun _=>eL _⟩
theorem QB{x:ByteArray}(hx:bD x):Ch x:=QA hx
theorem QC(x:ByteArray):bD (oT x).1:=by
 unfold oT
 simp only[cond_eq_ite]
 repeat' split
 ·exact Nat.zero_le _
 ·exact Nat.zero_le _
 ·rename_i h
  simp only[decide_eq_true_eq]at h;show ByteArray.size _≤_;dsimp only;omega
theorem QD{x:ByteArray}(hx:bD x):vA x:=by
 unfold vA
 intro aM
 have eL: ∀a b c,dK b→aM a b c:=fun a b c ad _=>IA (v:=⟨a,b,c⟩) ad
 refine⟨fun _=>eL _ _ _ cg,fun _=>⟨fun _=>⟨fun _=>eL _ _ _ (oR (by decide) (by decide)),fun _=>eL _ _ _ cg⟩,fun _=>?_⟩⟩
 intro v5
 refine⟨fun h=>⟨Int.le_refl _,Cg h⟩,fun h=>?_,fun _=>?_⟩
 ·have h:=Cg (Bool.and_eq_true _ _ ▸ h).1
  exact⟨⟨by decide,by omega⟩,nY _,eL _ _ _ (p3 _)⟩
 ·intro v9
  exact⟨fun h=>⟨Int.le_refl _,Cg h⟩,fun _=>⟨QB hx,eL _ _ _ cg⟩,fun _=>⟨nY _,eL _ _ _ (p3 _)⟩⟩
theorem QE(x:ByteArray):p0 (kr x).1:=by
 have fin: ∀(a b:Int) (c w:ByteArray),dK a→dK b→bD c→p0 (bif(bm .eql x (⟨#[]⟩:ByteArray)||bm .neq w x)then((⟨0,0,⟨#[]⟩⟩:cr),(4:Int))else(⟨a,b,c⟩,0)).1:=by
  intro a b c w aI ad hc
  cases (bm .eql x (⟨#[]⟩:ByteArray)||bm .neq w x)
  ·exact⟨aI,ad,hc⟩
  ·exact⟨cg,cg,Nat.zero_le _⟩
 have oS: ∀(a b:Int) (c:ByteArray),dK a→dK b→bD c→p0 (bif bm .eql x (⟨#[]⟩:ByteArray)then(bif(bm .eql x (⟨#[]⟩:ByteArray)||bm .neq (⟨#[]⟩:ByteArray) x)then((⟨0,0,⟨#[]⟩⟩:cr),(4:Int))else(⟨a,b,c⟩,0))else(bif(bm .eql x (⟨#[]⟩:ByteArray)||bm .neq (m17 ⟨a,b,c⟩) x)then((⟨0,0,⟨#[]⟩⟩:cr),(4:Int))else(⟨a,b,c⟩,0))).1:=by
  intro a b c aI ad hc
  have aa:=fin a b c (⟨#[]⟩:ByteArray) aI ad hc
  have af:=fin a b c (m17 ⟨a,b,c⟩) aI ad hc
  simp only[cond_eq_ite];simp only[cond_eq_ite]at aa af
  split
  ·exact aa
  ·exact af
 have small: ∀k:Int, -10≤k→k≤10→dK k:=fun k aa af=>oR (by omega) (by omega)
 have e:bD (⟨#[]⟩:ByteArray):=Nat.zero_le _
 unfold kr
 dsimp only
 cases (bm .eql x (⟨#[110,111,110,101]⟩:ByteArray))
 ·simp only[cond_false]
  cases ((bm .eql x (⟨#[116,114,117,101]⟩:ByteArray))||(bm .eql x (⟨#[102,97,108,115,101]⟩:ByteArray)))
  ·simp only[cond_false]
   cases ((bm .neq x (⟨#[]⟩:ByteArray))&&((aK x (0:Int))==35))
   ·simp only[cond_false]
    cases ((bm .neq x (⟨#[]⟩:ByteArray))&&((aK x (0:Int))==34))
    ·exact oS _ _ _ (small _ (by decide) (by decide)) (p3 _) e
    ·exact oS _ _ _ (small _ (by decide) (by decide)) cg (QC _)
   ·exact oS _ _ _ (small _ (by decide) (by decide)) (p3 _) e
  ·simp only[cond_true]
   cases (bm .eql x (⟨#[116,114,117,101]⟩:ByteArray))
   ·exact oS _ _ _ (small _ (by decide) (by decide)) cg e
   ·exact oS _ _ _ (small _ (by decide) (by decide)) (small _ (by decide) (by decide)) e
 ·exact oS _ _ _ cg cg e
end Go.aG
