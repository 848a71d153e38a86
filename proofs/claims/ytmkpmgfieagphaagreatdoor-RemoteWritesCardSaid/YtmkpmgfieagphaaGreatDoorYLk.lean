/- Numbers, texts, values, readers: the spec functions. Conditions: none. -/
import Derived.Test.YtmkpmgfieagphaaGreatDoorYTEk
import Derived.Laws.RangeString
import Derived.Laws.RangeAny
import Derived.Laws.BitsAllLaws
import Derived.Laws.DeepNot64
import Derived.Test.YtmkpmgfieagphaaGreatDoorYPm
namespace Go.aO
open Go Go.aO Go.eK
def tr(s:ByteArray)(vm:Nat)(Bx:Int):Step (Int × Int × Int) (Int):=
 match Bx with
 |(F4)=>(match(s.data.toList)[vm]? with|some ye=>(bif((decide ((vm:Int)>0)&&((ye.toNat:Int)==0))||(((vm:Int)==9)&&decide ((ye.toNat:Int)>1)))then .ret (0,0,4)else(bif decide ((ye.toNat:Int)<128)then .ret (ng .u64 F4 (IntKind.u64.wrap ((IntKind.u64.wrap (n6 .u8 (ye.toNat:Int) 127))*2^(min (IntKind.i64.wrap (7*(vm:Int))).toNat 64))),((vm+1:Nat):Int),0)else .bn (ng .u64 F4 (IntKind.u64.wrap ((IntKind.u64.wrap (n6 .u8 (ye.toNat:Int) 127))*2^(min (IntKind.i64.wrap (7*(vm:Int))).toNat 64))))))|none=>.bn Bx)
def F5(s:ByteArray)(Bx:Int):(Int × Int × Int)⊕(Int):=bq (tr s) 0 s.size Bx
def la(s:ByteArray):Int × Int × Int:=
 (match(F5 s (0))with| .inl Xe=>Xe| .inr (F4)=>(0,0,5))
def n7(r:Rd):(Int):=
 (bif !r.made then 15 else r.err)
def eN(r:Rd):(Int × Rd):=
 (bif((n7 r) != 0)then(0,r)else(bif((((la r.rest).2).2) != 0)then(0,(⟨r.rest,(((la r.rest).2).2),r.made⟩:Rd))else(n8 .i64 (IntKind.i64.wrap (((la r.rest).1).fdiv 2)) (IntKind.i64.wrap (0-IntKind.i64.wrap (n6 .u64 ((la r.rest).1) 1))),(⟨r.rest.extract ((((la r.rest).2).1).toNat) r.rest.size,r.err,r.made⟩:Rd))))
def ij(r:Rd)(n:Int):(Int × Rd):=
 (bif((n7 ((eN r).2)) != 0)then(0,((eN r).2))else(bif decide ((eN r).1<0)then(0,(⟨((eN r).2).rest,4,((eN r).2).made⟩:Rd))else(bif decide ((eN r).1>(if 0>n then 0 else n))then(0,(⟨((eN r).2).rest,3,((eN r).2).made⟩:Rd))else((eN r).1,((eN r).2)))))
def pt(r:Rd)(n:Int):(ByteArray × Rd):=
 (bif((n7 ((ij r n).2)) != 0)then(⟨#[]⟩,((ij r n).2))else(bif decide ((ij r n).1>(((((ij r n).2).rest).size:Nat):Int))then(⟨#[]⟩,(⟨((ij r n).2).rest,5,((ij r n).2).made⟩:Rd))else((((ij r n).2).rest).extract 0 (((ij r n).1).toNat),(⟨(((ij r n).2).rest).extract (((ij r n).1).toNat) (((ij r n).2).rest).size,((ij r n).2).err,((ij r n).2).made⟩:Rd))))
def yf(r:Rd)(e:Int):(Rd):=
 (bif((n7 r)==0)then(⟨r.rest,e,r.made⟩:Rd)else r)
def yg(n:Int):Bool:=
 (decide (n≥ -1099511627776)&&decide (n≤1099511627776))
def n9(v:az):Int:=
 (bif(((v.kind==0)||(v.kind==4))||((v.kind==1)||((v.kind==2)||(v.kind==3))))then(bif !(bif((v.kind==0)||(v.kind==4))then(v.n==0)else(bif(v.kind==1)then((v.n==0)||(v.n==1))else(bif(v.kind==2)then yg v.n else(decide (v.n≥0)&&decide (v.n≤63)))))then 2 else(bif decide ((v.s.size:Int)>60)then 3 else(bif(!cW v.s (⟨#[]⟩)&&(v.kind != 4))then 4 else 0)))else 7)
def By(v:az):Int:=
 (bif(((v.kind==0)||(v.kind==4))||((v.kind==1)||((v.kind==2)||(v.kind==3))))then(bif(decide (v.n<(bif(((v.kind==0)||(v.kind==4))||((v.kind==1)|| !(v.kind==2)))then 0 else -1099511627776))||decide (v.n>(bif((v.kind==0)||(v.kind==4))then 0 else(bif(v.kind==1)then 1 else(bif(v.kind==2)then 1099511627776 else 63)))))then 2 else(bif decide ((v.s.size:Int)>60)then 3 else(bif(!cW v.s (⟨#[]⟩)&&(v.kind != 4))then 4 else 0)))else 7)
def F6(r:Rd):az:=(bif(((eN r).1==1)||(((eN r).1==2)||((eN r).1==3)))then(⟨(eN r).1,(eN ((eN r).2)).1,⟨#[]⟩⟩:az)else(bif((eN r).1==4)then(⟨(eN r).1,0,(pt ((eN r).2) 60).1⟩:az)else(⟨(eN r).1,0,⟨#[]⟩⟩:az)))
def yh(r:Rd):Rd:=(bif(((eN r).1==1)||(((eN r).1==2)||((eN r).1==3)))then((eN ((eN r).2)).2)else(bif((eN r).1==4)then((pt ((eN r).2) 60).2)else((eN r).2)))
def vn(r:Rd):Rd:=(bif(n9 (F6 r) != 0)then(yf (yh r) 4)else(yh r))
def vo(r:Rd):(az × Rd):=
 (bif((n7 (vn r)) != 0)then((⟨0,0,⟨#[]⟩⟩:az),(vn r))else((F6 r),(vn r)))
def Xf(s:ByteArray):Rd:=(⟨s,0,true⟩:Rd)
open Classical in
theorem Xg{a:Int}(h:(a != 0)=false):a=0:=by simpa using h
theorem Xh{α:Type}{l:List α}{k:Nat}{x:α}:x∈l.take k↔∃i,i<k∧l[i]? =some x:=by
 rw[List.mem_iff_getElem?]
 constructor
 ·rintro⟨i,hi⟩
  rw[List.getElem?_take]at hi
  split at hi
  ·rename_i h;exact⟨i,h,hi⟩
  ·cases hi
 ·rintro⟨i,h,hi⟩
  exact⟨i,by rw[List.getElem?_take,if_pos h];exact hi⟩
theorem Xi{α:Type}{p q:Prop}[Decidable p][Decidable q]{a b:α}(h:p↔q):(if p then a else b)=if q then a else b:=by
 by_cases ak:p
 ·rw[if_pos ak,if_pos (h.1 ak)]
 ·rw[if_neg ak,if_neg fun aN=>ak (h.2 aN)]
theorem O7{α:Type}{p q:Prop}[Decidable p][Decidable q]{a b:α}(h:p↔¬q):(if p then a else b)=if q then b else a:=by
 by_cases aN:q
 ·rw[if_pos aN,if_neg fun ak=>h.1 ak aN]
 ·rw[if_neg aN,if_pos (h.2 aN)]
theorem Xj(v:az):n9 v=By v:=by
 unfold n9 By yg
 simp only[cond_eq_ite]
 by_cases aP:v.kind=0
 ·simp[aP]
  apply O7;omega
 by_cases aW:v.kind=4
 ·simp[aW]
  apply O7;omega
 by_cases aa:v.kind=1
 ·simp[aa]
  apply Xi;omega
 by_cases ae:v.kind=2
 ·simp[ae]
 by_cases au:v.kind=3
 ·simp[au]
 ·simp[aP,aa,ae,au,aW]
end Go.aO
namespace Go.aO
open Go Go.aO Go.eK
def kE:Nat→Nat→List Nat
 |0,u=>[u]
 |f+1,u=>if u<128 then[u]else(u%128+128)::kE f (u/ 128)
def gT(n:Int):Nat:=if 0≤n then(2*n).toNat else(-2*n-1).toNat
def ik(n:Int):Prop:= -9223372036854775808≤n∧n<9223372036854775808
theorem qv{n:Int}(h:ik n):gT n<18446744073709551616:=by
 unfold ik at h
 unfold gT
 split<;>omega
theorem pv(n:Int):IntKind.u64.wrap n=n%18446744073709551616:=by simp[IntKind.wrap,IntKind.bits,IntKind.signed]
theorem F7(a b:Nat)(ba:a<18446744073709551616)(ad:b<18446744073709551616):n8 .u64 (a:Int) (b:Int)=((a ^^^ b:Nat):Int):=u64_xor_nat a b ba ad
theorem Xk(a b:Nat)(ba:a<18446744073709551616)(ad:b<18446744073709551616):ng .u64 (a:Int) (b:Int)=((a ||| b:Nat):Int):=u64_or_nat a b ba ad
theorem Xl(a b:Nat)(ba:a<256)(ad:b<256):ng .u8 (a:Int) (b:Int)=((a ||| b:Nat):Int):=u8_or_nat a b ba ad
theorem Xm(a b:Nat)(ba:a<256)(ad:b<256):n6 .u8 (a:Int) (b:Int)=((a &&& b:Nat):Int):=u8_and_nat a b ba ad
theorem O8(a:Nat)(ba:a<18446744073709551616):a ^^^ 18446744073709551615=18446744073709551615-a:=by
 have h:(BitVec.ofNat 64 a ^^^ BitVec.allOnes 64)= ~~~(BitVec.ofNat 64 a):=by rw[BitVec.xor_allOnes]
 have ae:=congrArg BitVec.toNat h
 rw[BitVec.toNat_not,BitVec.toNat_xor,BitVec.toNat_ofNat,BitVec.toNat_allOnes,Nat.mod_eq_of_lt ba]at ae
 exact ae
theorem Xn{n:Int}(h:ik n):n8 .u64 (IntKind.u64.wrap (IntKind.u64.wrap n*2)) (IntKind.u64.wrap (n.fdiv 9223372036854775808))=((gT n:Nat):Int):=by
 obtain⟨aa,ae⟩:=h
 rw[pv,pv,pv,Int.fdiv_eq_ediv_of_nonneg _ (by decide)]
 by_cases hn:0≤n
 ·have aE:n%18446744073709551616*2%18446744073709551616=((gT n:Nat):Int):=by unfold gT;rw[if_pos hn];omega
  have bo:n/ 9223372036854775808%18446744073709551616=((0:Nat):Int):=by omega
  rw[aE,bo,F7 _ _ (qv ⟨aa,ae⟩) (by decide),Nat.xor_zero]
 ·have aE:n%18446744073709551616*2%18446744073709551616=((18446744073709551615-gT n:Nat):Int):=by unfold gT;rw[if_neg hn];omega
  have bo:n/ 9223372036854775808%18446744073709551616=((18446744073709551615:Nat):Int):=by omega
  have aS:=qv ⟨aa,ae⟩
  rw[aE,bo,F7 _ _ (by omega) (by decide),O8 _ (by omega)]
  omega
theorem O9{n:Int}(h:ik n):(bif decide (n<0)then n8 .u64 18446744073709551615 (IntKind.u64.wrap (IntKind.u64.wrap n*2))else IntKind.u64.wrap (IntKind.u64.wrap n*2))=((gT n:Nat):Int):=by
 obtain⟨aa,ae⟩:=h
 rw[pv,pv]
 by_cases hn:0≤n
 ·have il:decide (n<0)=false:=decide_eq_false (by omega)
  rw[il];show n%18446744073709551616*2%18446744073709551616=((gT n:Nat):Int);unfold gT;rw[if_pos hn];omega
 ·have il:decide (n<0)=true:=decide_eq_true (by omega)
  have aE:n%18446744073709551616*2%18446744073709551616=((18446744073709551615-gT n:Nat):Int):=by unfold gT;rw[if_neg hn];omega
  have aS:=qv ⟨aa,ae⟩
  rw[il,cond_true,aE,show(18446744073709551615:Int)=((18446744073709551615:Nat):Int)from rfl,F7 _ _ (by decide) (by omega),Nat.xor_comm,O8 _ (by omega)]
  omega
theorem Xo: ∀a,a<256→a ||| 128=a%128+128:=by decide+kernel
theorem Xp(u:Nat):ng .u8 (IntKind.u8.wrap (u:Int)) 128=((u%128+128:Nat):Int):=by
 have e:IntKind.u8.wrap (u:Int)=((u%256:Nat):Int):=by rw[IntKind.wrap_u8'];omega
 rw[e,show(128:Int)=((128:Nat):Int)from rfl,Xl _ _ (by omega) (by decide),Xo _ (by omega)]
 omega
theorem Xq(u:Nat):IntKind.u8.wrap (IntKind.u8.wrap ((u:Int).tmod 128)+128)=((u%128+128:Nat):Int):=by
 rw[Int.tmod_eq_emod_of_nonneg (by omega),IntKind.wrap_u8',IntKind.wrap_u8']
 omega
theorem Bz{R A:Type}{b:A→Step R A}{f:Nat}{x y:A}(h:b x= .cN y):c7 b (f+1) x= .inr y:=by
 unfold c7
 rw[h]
theorem F8{R A:Type}{b:A→Step R A}{f:Nat}{x y:A}(h:b x= .bn y):c7 b (f+1) x=c7 b f y:=by
 conv=>lhs;unfold c7
 rw[h]
def lQ(u:Nat):ByteArray:=bytesOf ((kE 9 u).map fun b:Nat=>(b:Int))
theorem Pb: ∀(l:List Int) (s:ByteArray),(l.foldl (fun r n=>r.push (UInt8.ofNat n.toNat)) s).data.toList=s.data.toList++l.map fun n=>UInt8.ofNat n.toNat
 |[],s=>by simp
 |n::l,s=>by
  rw[List.foldl_cons,Pb l,ByteArray.data_push,Array.toList_push,List.map_cons,List.append_assoc,List.singleton_append]
theorem Pc(l:List Int):(bytesOf l).data.toList=l.map fun n=>UInt8.ofNat n.toNat:=by
 unfold bytesOf
 rw[Pb]
 rfl
theorem tt(l:List Int):(bytesOf l).size=l.length:=by
 have h:=congrArg List.length (Pc l)
 rw[List.length_map,Array.length_toList]at h
 exact h
theorem Xr{a b:ByteArray}(h:a.data.toList=b.data.toList):a=b:=ByteArray.ext (Array.toList_inj.1 h)
def yi(l:List Nat):List UInt8:=l.map UInt8.ofNat
theorem Xs(u:Nat):(lQ u).data.toList=yi (kE 9 u):=by
 unfold lQ yi
 rw[Pc,List.map_map]
 rfl
theorem Xt(f u:Nat):(kE f u).length≤f+1:=by
 induction f generalizing u with
 |zero=>exact Nat.le_refl _
 |succ f a7=>
  unfold kE
  split
  ·simp
  ·have:=a7 (u/ 128)
   simp only[List.length_cons];omega
theorem Pd(u:Nat):(lQ u).size=(kE 9 u).length:=by
 unfold lQ
 rw[tt,List.length_map]
theorem F9(k:Nat):128^k=2^(7*k):=by rw[Nat.pow_mul]
theorem Xu{k acc c:Nat}(aj:k≤9)(hc:c<256)(ba:acc<128^k)(hd:c%128*128^k<18446744073709551616):
 ng .u64 (acc:Int) (IntKind.u64.wrap ((IntKind.u64.wrap (n6 .u8 (c:Int) 127))*2^(min (IntKind.i64.wrap (7*(k:Int))).toNat 64)))=((acc+c%128*128^k:Nat):Int):=by
 have aE:n6 .u8 (c:Int) 127=((c%128:Nat):Int):=by
  rw[show(127:Int)=((127:Nat):Int)from rfl,Xm _ _ hc (by decide),nat_mask7]
 have bo:min (IntKind.i64.wrap (7*(k:Int))).toNat 64=7*k:=by
  rw[rS _ (by omega) (by omega)]
  omega
 have cv:IntKind.u64.wrap ((c%128:Nat):Int)=((c%128:Nat):Int):=by rw[pv];omega
 have eC:(((c%128:Nat):Int)*2^(7*k))=((c%128*128^k:Nat):Int):=by
  rw[F9];push_cast;rfl
 have ak:128^k≤128^9:=Nat.pow_le_pow_right (by decide) aj
 rw[aE,bo,cv,eC,pv]
 have oa:((c%128*128^k:Nat):Int)%18446744073709551616=((c%128*128^k:Nat):Int):=by omega
 rw[oa,Xk _ _ (by(have:(128:Nat)^9=9223372036854775808:=(by decide));omega) hd]
 rw[Nat.or_comm,nat_join (7*k) _ _ (by rw[F9];exact Nat.mul_mod_left _ _) (by rw[←F9];exact ba),Nat.add_comm]
theorem Pe(e:UInt8):e.toNat<256:=e.toNat_lt
theorem Xv{s:ByteArray}{k:Nat}{e:UInt8}{acc:Nat}(he:s.data.toList[k]? =some e)(aj:k≤9)(ba:acc<128^k):tr s k (acc:Int)=
 if(0<k∧e.toNat=0)∨(k=9∧1<e.toNat)then .ret (0,0,4)else if e.toNat<128 then .ret (((acc+e.toNat%128*128^k:Nat):Int),((k+1:Nat):Int),0)else .bn ((acc+e.toNat%128*128^k:Nat):Int):=by
 have hu:=Pe e
 unfold tr
 dsimp only
 rw[he]
 dsimp only
 rw[cond_eq_ite]
 by_cases aa:(0<k∧e.toNat=0)∨(k=9∧1<e.toNat)
 ·rw[if_pos aa,if_pos]
  simp only[Bool.or_eq_true,Bool.and_eq_true,decide_eq_true_eq,beq_iff_eq];omega
 ·have hd:e.toNat%128*128^k<18446744073709551616:=by
   rcases Nat.lt_or_ge k 9 with hB|hB
   ·have ak:128^k≤128^8:=Nat.pow_le_pow_right (by decide) (by omega)
    have:e.toNat%128*128^k≤127*128^8:=Nat.mul_le_mul (by omega) ak
    exact Nat.lt_of_le_of_lt this (by decide)
   ·have Ga:k=9:=by omega
    subst Ga
    have:e.toNat%128*128^9≤1*128^9:=Nat.mul_le_mul (by omega) (Nat.le_refl _)
    exact Nat.lt_of_le_of_lt this (by decide)
  rw[if_neg aa,if_neg (by
   simp only[Bool.or_eq_true,Bool.and_eq_true,decide_eq_true_eq,beq_iff_eq]
   omega),Xu aj hu ba hd,cond_eq_ite]
  by_cases ae:e.toNat<128
  ·rw[if_pos ae,if_pos (by rw[decide_eq_true_eq];omega)]
  ·rw[if_neg ae,if_neg (by rw[decide_eq_true_eq];omega)]
theorem Pf{s:ByteArray}: ∀(m k acc:Nat) (U N:Int),k+m=s.size→acc<128^k→k≤9→bq (tr s) k m (acc:Int)= .inl (U,N,0)→
 ∃(u:Nat) (t:List UInt8),U=((acc+u*128^k:Nat):Int)∧s.data.toList.drop k=yi (kE (9-k) u)++t∧N=((k+(kE (9-k) u).length:Nat):Int)∧(0<k→0<u)∧acc+u*128^k<18446744073709551616
 |0,k,acc,U,N,_,_,_,h=>by simp[bq]at h
 |m+1,k,acc,U,N,ai,ba,aj,h=>by
  have bR:k<s.data.toList.length:=by
   have:s.data.toList.length=s.size:=rfl
   omega
  obtain⟨e,he⟩: ∃e,s.data.toList[k]? =some e:=⟨_,List.getElem?_eq_getElem bR⟩
  have Pg:s.data.toList.drop k=e::s.data.toList.drop (k+1):=by
   rw[List.drop_eq_getElem_cons bR]
   congr 1
   rw[List.getElem?_eq_getElem bR]at he
   exact Option.some.inj he
  have zjp:=Pe e
  have Xw:128^(k+1)=128*128^k:=by rw[Nat.pow_succ,Nat.mul_comm]
  have zjq:128^k≤128^9:=Nat.pow_le_pow_right (by decide) aj
  have Ph:(128:Nat)^9=9223372036854775808:=by decide
  unfold bq at h;rw[Xv he aj ba]at h
  split at h
  ·rename_i r ag
   split at ag
   ·cases ag;cases h
   ·rename_i aN
    split at ag
    ·rename_i hc
     cases ag;simp only[Sum.inl.injEq,Prod.mk.injEq]at h;obtain⟨rfl,rfl,_⟩:=h
     have ax:kE (9-k) e.toNat=[e.toNat]:=by
      rcases Nat.lt_or_ge k 9 with hB|hB
      ·obtain⟨f,hf⟩: ∃f,9-k=f+1:=⟨8-k,by omega⟩
       rw[hf];unfold kE;rw[if_pos hc]
      ·rw[show 9-k=0 by omega];rfl
     have tu:acc+e.toNat*128^k<18446744073709551616:=by
      rcases Nat.lt_or_ge k 9 with hB|hB
      ·have ak:128^k≤128^8:=Nat.pow_le_pow_right (by decide) (by omega)
       have ae:e.toNat*128^k≤127*128^8:=Nat.mul_le_mul (by omega) ak
       have Gb:127*(128:Nat)^8=9151314442816847872:=by decide
       omega
      ·have Ga:k=9:=by omega
       subst Ga
       have:e.toNat*128^9≤1*128^9:=Nat.mul_le_mul (by omega) (Nat.le_refl _)
       omega
     refine⟨e.toNat,s.data.toList.drop (k+1),by rw[Nat.mod_eq_of_lt hc],?_,by rw[ax];rfl,fun aP=>by omega,tu⟩
     rw[ax,Pg];simp[yi]
    ·cases ag
  ·rename_i a ag
   split at ag
   ·cases ag
   ·split at ag<;>cases ag
  ·rename_i a ag
   split at ag
   ·cases ag
   ·rename_i aN
    split at ag
    ·cases ag
    ·rename_i hc
     cases ag
     have zjr:k≤8:=by
      rcases Nat.lt_or_ge k 9 with hB|hB
      ·omega
      ·exact absurd (Or.inr ⟨by omega,by omega⟩) aN
     have Gc:acc+e.toNat%128*128^k<128^(k+1):=by
      have:e.toNat%128*128^k≤127*128^k:=Nat.mul_le_mul (by omega) (Nat.le_refl _)
      omega
     obtain⟨u,t,aa,ae,au,aW,bN⟩:=Pf m (k+1) (acc+e.toNat%128*128^k) U N (by omega) Gc (by omega) h
     have zjs:=aW (by omega)
     have yj:acc+e.toNat%128*128^k+u*128^(k+1)=acc+(e.toNat%128+u*128)*128^k:=by
      rw[Xw,Nat.add_mul,Nat.add_assoc,Nat.mul_assoc]
     have ax:kE (9-k) (e.toNat%128+u*128)=e.toNat::kE (9-(k+1)) u:=by
      rw[show 9-k=(9-(k+1))+1 by omega]
      conv=>lhs;unfold kE
      rw[if_neg (by omega)]
      congr 1
      ·omega
      ·congr 1
       omega
     refine⟨e.toNat%128+u*128,t,by rw[aa,yj],?_,?_,fun _=>by omega,by rw[←yj];exact bN⟩
     ·rw[ax,Pg,ae]
      simp[yi]
     ·rw[ax,au,List.length_cons]
      congr 1
      omega
theorem Xx{s:ByteArray}{U N:Int}(h:la s=(U,N,0)): ∃(u:Nat) (t:ByteArray),U=(u:Int)∧s=lQ u++t∧N=(((lQ u).size:Nat):Int)∧u<18446744073709551616:=by
 unfold la at h
 split at h
 ·rename_i r ag
  subst h;unfold F5 at ag;obtain⟨u,t,aa,ae,au,_,bN⟩:=Pf s.size 0 0 U N (by omega) (by decide) (by decide) ag
  refine⟨u,⟨t.toArray⟩,by rw[aa];simp,Xr ?_,by rw[au,Pd];simp,by omega⟩
  rw[ByteArray.data_append,Array.toList_append,Xs];simpa using ae
 ·simp at h
end Go.aO
namespace Go.aO
open Go Go.aO Go.eK
theorem Xy{v:az}(h:n9 v=0):v.s.size≤60:=by
 unfold n9 at h
 simp only[cond_eq_ite]at h
 repeat' split at h
 all_goals first
  |(cases h;done)
  |(rename_i aN _;simp at aN;omega)
  |(rename_i aN;simp at aN;omega)
theorem Xz{a b:ByteArray}:cW a b=true↔a=b:=by rw[tk];simp
theorem XA{v:az}(h:n9 v=0):(v.kind=0∧v.n=0∧v.s=⟨#[]⟩)∨((v.kind=1∨v.kind=2∨v.kind=3)∧v.s=⟨#[]⟩∧ -1099511627776≤v.n∧v.n≤1099511627776)∨(v.kind=4∧v.n=0∧v.s.size≤60):=by
 have bY:=Xy h
 unfold n9 at h
 cases dt:(((v.kind==0)||(v.kind==4))||((v.kind==1)||((v.kind==2)||(v.kind==3))))with
 |false=>rw[dt]at h;cases h
 |true=>
  rw[dt]at h
  cases hC:(bif((v.kind==0)||(v.kind==4))then(v.n==0)else(bif(v.kind==1)then((v.n==0)||(v.n==1))else(bif(v.kind==2)then yg v.n else(decide (v.n≥0)&&decide (v.n≤63)))))with
  |false=>rw[hC]at h;cases h
  |true=>
   rw[hC]at h;simp only[cond_true,Bool.not_true,cond_false]at h;simp only[cond_eq_ite]at h
   split at h
   ·cases h
   ·split at h
    ·cases h
    ·rename_i au
     have ai:v.kind≠4→v.s=⟨#[]⟩:=fun aj=>by
      simp only[Bool.and_eq_true,bne_iff_ne,ne_eq,not_and,Decidable.not_not,Bool.not_eq_true']at au
      cases aN:cW v.s ⟨#[]⟩with
      |true=>exact Xz.1 aN
      |false=>exact absurd (au aN) aj
     simp only[Bool.or_eq_true,beq_iff_eq]at dt
     rcases dt with (aP|aW)|aa|ae|au
     ·exact .inl ⟨aP,by simpa[aP]using hC,ai (by omega)⟩
     ·exact .inr (.inr ⟨aW,by simpa[aW]using hC,bY⟩)
     ·refine .inr (.inl ⟨.inl aa,ai (by omega),?_⟩)
      simp[aa]at hC;omega
     ·refine .inr (.inl ⟨.inr (.inl ae),ai (by omega),?_⟩)
      simp[ae,yg]at hC;omega
     ·refine .inr (.inl ⟨.inr (.inr au),ai (by omega),?_⟩)
      simp[au]at hC;omega
end Go.aO
namespace Go.aO
open Go Go.eK
theorem XB(u:Nat):bL .shr .u64 (u:Int) 7=((u/ 128:Nat):Int):=by
 show(u:Int).fdiv (2^(min (7:Int).toNat 64))=_
 rw[show(2:Int)^(min (7:Int).toNat 64)=128 from rfl,Int.fdiv_eq_ediv_of_nonneg _ (by decide)]
 omega
theorem XC{u:Nat}(h:u<18446744073709551616):bL .quo .u64 (u:Int) 128=((u/ 128:Nat):Int):=by
 show IntKind.u64.wrap ((u:Int).tdiv 128)=_
 rw[Int.tdiv_eq_ediv_of_nonneg (by omega),pv]
 omega
def tv(R:Type)(c:Int × List Int):Step R (Int × List Int):=
 bif decide (c.1≥128)then .bn (bL .shr .u64 c.1 7,List.append c.2 [bL .or .u8 (IntKind.wrap .u8 c.1) 128])else .cN (c.1,c.2)
def tw(R:Type)(c:Int × List Int):Step R (Int × List Int):=
 bif decide (c.1≥128)then .bn (bL .quo .u64 c.1 128,List.append c.2 [IntKind.wrap .u8 (IntKind.wrap .u8 (bL .rem .u64 c.1 128)+128)])else .cN (c.1,c.2)
theorem XD(R:Type){u:Nat}(acc:List Int)(h:u<128):tv R ((u:Int),acc)= .cN ((u:Int),acc):=by
 unfold tv
 rw[show decide ((u:Int)≥128)=false from decide_eq_false (by omega)]
 rfl
theorem Pj(R:Type){u:Nat}(acc:List Int)(h: ¬u<128):tv R ((u:Int),acc)= .bn (((u/ 128:Nat):Int),acc++[((u%128+128:Nat):Int)]):=by
 unfold tv
 rw[show decide ((u:Int)≥128)=true from decide_eq_true (by omega),cond_true,XB]
 show Step.bn (_,acc++[ng .u8 (IntKind.u8.wrap (u:Int)) 128])=_
 rw[Xp]
theorem XE(R:Type){u:Nat}(acc:List Int)(h:u<128):tw R ((u:Int),acc)= .cN ((u:Int),acc):=by
 unfold tw
 rw[show decide ((u:Int)≥128)=false from decide_eq_false (by omega)]
 rfl
theorem Pk(R:Type){u:Nat}(acc:List Int)(h: ¬u<128)(ae:u<18446744073709551616):tw R ((u:Int),acc)= .bn (((u/ 128:Nat):Int),acc++[((u%128+128:Nat):Int)]):=by
 unfold tw
 rw[show decide ((u:Int)≥128)=true from decide_eq_true (by omega),cond_true,XC ae]
 show Step.bn (_,acc++[IntKind.u8.wrap (IntKind.u8.wrap ((u:Int).tmod 128)+128)])=_
 rw[Xq]
theorem Pl{R:Type}{b:Int × List Int→Step R (Int × List Int)}(ar: ∀(u:Nat) acc,u<128→b ((u:Int),acc)= .cN ((u:Int),acc))
 (ah: ∀(u:Nat) acc,¬u<128→u<18446744073709551616→b ((u:Int),acc)= .bn (((u/ 128:Nat):Int),acc++[((u%128+128:Nat):Int)])):
 ∀(f u F:Nat) (acc:List Int),u<128*128^f→u<18446744073709551616→f<F→∃(x:Nat) (l:List Int),c7 b F ((u:Int),acc)= .inr ((x:Int),acc++l)∧(kE f u).map (fun b:Nat=>(b:Int))=l++[(x:Int)]∧x<128
 |f,u,0,acc,h,_,hF=>absurd hF (Nat.not_lt_zero _)
 |f,u,F+1,acc,h,tu,hF=>by
  by_cases hu:u<128
  ·refine⟨u,[],by rw[Bz (ar u acc hu),List.append_nil],?_,hu⟩
   cases f with
   |zero=>rfl
   |succ f=>unfold kE;rw[if_pos hu];rfl
  ·cases f with
   |zero=>exact absurd h (by simpa using hu)
   |succ f=>
    have ae:u/ 128<128*128^f:=by
     rw[Nat.pow_succ]at h;omega
    obtain⟨x,l,aE,bo,cv⟩:=Pl ar ah f (u/ 128) F (acc++[((u%128+128:Nat):Int)]) ae (by omega) (by omega)
    refine⟨x,((u%128+128:Nat):Int)::l,?_,?_,cv⟩
    ·rw[F8 (ah u acc hu tu),aE,List.append_assoc,List.singleton_append]
    ·unfold kE
     rw[if_neg hu,List.map_cons,bo,List.cons_append]
theorem Pm{R:Type}{b:Int × List Int→Step R (Int × List Int)}(ar: ∀(u:Nat) acc,u<128→b ((u:Int),acc)= .cN ((u:Int),acc))
 (ah: ∀(u:Nat) acc,¬u<128→u<18446744073709551616→b ((u:Int),acc)= .bn (((u/ 128:Nat):Int),acc++[((u%128+128:Nat):Int)])){u:Nat}(tu:u<18446744073709551616):
 ∃(x:Nat) (l:List Int),c7 b dG ((u:Int),[])= .inr ((x:Int),l)∧bytesOf (List.append l [IntKind.wrap .u8 (x:Int)])=lQ u:=by
 obtain⟨x,l,aE,bo,cv⟩:=Pl ar ah 9 u dG [] (Nat.lt_of_lt_of_le tu (by decide)) tu (by decide)
 refine⟨x,l,aE,?_⟩
 unfold lQ
 rw[bo,IntKind.wrap_u8',show(x:Int)%256=(x:Int)by omega]
 rfl
theorem Pn{n:Int}(h:ik n):bL .xor .u64 (bL .shl .u64 (IntKind.wrap .u64 n) 1) (IntKind.wrap .u64 (bL .shr .i64 n 63))=((gT n:Nat):Int):=by
 have:bL .shr .i64 n 63=n.fdiv 9223372036854775808:=rfl
 rw[this]
 exact Xn h
theorem BA{n:Int}(h:ik n):gf n=lQ (gT n):=by
 obtain⟨x,l,aE,bo⟩:=Pm (R:=ByteArray) (b:=tv ByteArray) (fun u acc=>XD _ acc) (fun u acc h _=>Pj _ acc h) (qv h)
 unfold gf
 rw[Pn h]
 show Sum.elim _ _ (c7 (tv ByteArray) dG (((gT n:Nat):Int),[]))=_
 rw[aE]
 exact bo
theorem Gd{n:Int}(h:ik n):jT n=lQ (gT n):=by
 obtain⟨x,l,aE,bo⟩:=Pm (R:=ByteArray) (b:=tw ByteArray) (fun u acc=>XE _ acc) (fun u acc h ae=>Pk _ acc h ae) (qv h)
 have ba:=O9 h
 unfold jT
 dsimp only
 have key: ∀v:Int,v=((gT n:Nat):Int)→Sum.elim (fun r=>r) (fun bl:Int × List Int=>bytesOf (List.append bl.2 [IntKind.wrap .u8 bl.1])) (c7 (tw ByteArray) dG (v,[]))=lQ (gT n):=by
  rintro v rfl
  rw[aE];exact bo
 cases hd:decide (n<0)with
 |true=>
  rw[hd,cond_true]at ba;exact key _ ba
 |false=>
  rw[hd,cond_false]at ba;exact key _ ba
theorem yk{u:Nat}:(lQ u).size≤10:=by rw[Pd];exact Xt 9 u
def qw(d:Int × List Int):Prop:=∃(u f:Nat),d.1=(u:Int)∧u<18446744073709551616∧u<128*128^f∧d.2.length+f≤9
theorem Po{u:Nat}(h:u<18446744073709551616):qw ((u:Int),[]):=⟨u,9,rfl,h,Nat.lt_of_lt_of_le h (by decide),Nat.le_refl _⟩
theorem Pp{u:Nat}{acc:List Int}(h:qw ((u:Int),acc))(hu: ¬u<128):qw (((u/ 128:Nat):Int),acc++[((u%128+128:Nat):Int)]):=by
 obtain⟨v,f,aa,ae,au,aW⟩:=h
 have:u=v:=by have:(u:Int)=v:=aa;omega
 subst this
 cases f with
 |zero=>exact absurd au (by simpa using hu)
 |succ f=>
  have aW:acc.length+(f+1)≤9:=aW
  exact⟨u/ 128,f,rfl,by omega,by rw[Nat.pow_succ]at au;omega,by show(acc++[_]).length+f≤9;rw[List.length_append];simp;omega⟩
theorem BB{d:Int × List Int}(h:qw d):d.2.length≤9:=by
 obtain⟨_,f,_,_,_,aW⟩:=h
 omega
theorem Pq{d:Int × List Int}(h:qw d): ∃(u:Nat) (acc:List Int),d=((u:Int),acc)∧u<18446744073709551616:=by
 obtain⟨u,_,aa,ae,_⟩:=h
 exact⟨u,d.2,by rw[←aa],ae⟩
theorem vp{n:Int}(h:ik n):ob n:=by
 unfold ob
 rw[Pn h]
 refine⟨qw,fun d=>d.1.toNat,Po (qv h),?_,fun d hd=>⟨fun hc=>?_,fun hc=>?_⟩⟩
 ·have:=qv h
  show(((gT n:Nat):Int)).toNat<dG;unfold dG;omega
 ·obtain⟨u,acc,rfl,hu⟩:=Pq hd
  have ar:acc.length≤9:=BB hd
  have hc: ¬u<128:=by have:=of_decide_eq_true hc;simp only at this;omega
  have ad:=Pj Unit acc hc
  unfold tv at ad;rw[show decide ((u:Int)≥128)=true from decide_eq_true (by omega),cond_true]at ad
  have aE:=congrArg (fun s=>match s with|Step.bn x=>x.1|_=>0) ad
  have bo:=congrArg (fun s=>match s with|Step.bn x=>x.2|_=>[]) ad
  simp only at aE bo;refine⟨⟨?_,?_⟩,?_,?_⟩
  ·show acc.length+1≤maxLen
   unfold maxLen;omega
  ·show(acc.length+1)*1≤_
   omega
  ·show qw (bL .shr .u64 (u:Int) 7,List.append acc [bL .or .u8 (IntKind.wrap .u8 (u:Int)) 128])
   rw[aE,bo];exact Pp hd hc
  ·show(bL .shr .u64 (u:Int) 7).toNat<(u:Int).toNat
   rw[aE];omega
 ·have ar:=BB hd
  refine⟨?_,?_⟩
  ·show d.2.length+1≤maxLen
   unfold maxLen;omega
  ·show(d.2.length+1)*1≤_
   omega
theorem BC{n:Int}(h:ik n):pw n:=by
 have key: ∀v:Int,v=((gT n:Nat):Int)→∃(bA:(Int × (List Int))→Prop) (gU:(Int × (List Int))→Nat),bA (v,[])∧gU (v,[])<dG∧∀(d0:Int × (List Int)),bA d0→(
  ((decide (d0.1≥128))=true→(
   let v11:List Int:=([(IntKind.wrap .u8 ((IntKind.wrap .u8 (bL .rem .u64 d0.1 (128:Int)))+(128:Int)))]:List Int)
   (List.length d0.2+List.length v11≤maxLen∧(List.length d0.2+List.length v11)*1≤140737488355328)∧
   bA ((bL .quo .u64 d0.1 (128:Int)),(List.append d0.2 v11))∧gU ((bL .quo .u64 d0.1 (128:Int)),(List.append d0.2 v11))<gU d0))∧((decide (d0.1≥128))=false→(
   List.length d0.2+List.length ([IntKind.wrap .u8 d0.1]:List Int)≤maxLen∧(List.length d0.2+List.length ([IntKind.wrap .u8 d0.1]:List Int))*1≤140737488355328))):=by
   rintro v rfl
   refine⟨qw,fun d=>d.1.toNat,Po (qv h),?_,fun d hd=>⟨fun hc=>?_,fun hc=>?_⟩⟩
   ·have:=qv h
    show(((gT n:Nat):Int)).toNat<dG;unfold dG;omega
   ·obtain⟨u,acc,rfl,hu⟩:=Pq hd
    have ar:acc.length≤9:=BB hd
    have hc: ¬u<128:=by have:=of_decide_eq_true hc;simp only at this;omega
    have ad:=Pk Unit acc hc hu
    unfold tw at ad;rw[show decide ((u:Int)≥128)=true from decide_eq_true (by omega),cond_true]at ad
    have aE:=congrArg (fun s=>match s with|Step.bn x=>x.1|_=>0) ad
    have bo:=congrArg (fun s=>match s with|Step.bn x=>x.2|_=>[]) ad
    simp only at aE bo;refine⟨⟨?_,?_⟩,?_,?_⟩
    ·show acc.length+1≤maxLen
     unfold maxLen;omega
    ·show(acc.length+1)*1≤_
     omega
    ·show qw (bL .quo .u64 (u:Int) 128,List.append acc [IntKind.wrap .u8 (IntKind.wrap .u8 (bL .rem .u64 (u:Int) 128)+128)])
     rw[aE,bo];exact Pp hd hc
    ·show(bL .quo .u64 (u:Int) 128).toNat<(u:Int).toNat
     rw[aE];omega
   ·have ar:=BB hd
    refine⟨?_,?_⟩
    ·show d.2.length+1≤maxLen
     unfold maxLen;omega
    ·show(d.2.length+1)*1≤_
     omega
 have ba:=O9 h
 unfold pw
 refine⟨fun hd=>?_,fun hd=>?_⟩
 ·rw[hd,cond_true]at ba
  exact key _ ba
 ·rw[hd,cond_false]at ba
  exact key _ ba
def fC(s:ByteArray):Prop:=s.size≤140737488351232
theorem fC.i64{s:ByteArray}(h:fC s):ik (s.size:Int):=by unfold fC at h;exact⟨by omega,by omega⟩
theorem Ge{s:ByteArray}(h:fC s):im s=lQ (gT s.size)++s:=by
 unfold im
 rw[BA h.i64]
 rfl
theorem XF{s:ByteArray}(h:fC s):qx s=lQ (gT s.size)++s:=by
 unfold qx
 rw[Gd h.i64]
 rfl
theorem vq{s:ByteArray}(h:fC s):(im s).size≤140737488351242:=by
 rw[Ge h,ByteArray.size_append]
 have:=yk (u:=gT s.size)
 unfold fC at h
 omega
theorem yl{s:ByteArray}(h:fC s):rT s:=by
 refine⟨vp h.i64,?_⟩
 have:=yk (u:=gT s.size)
 rw[BA h.i64]
 unfold fC at h
 omega
theorem XG{s:ByteArray}(h:fC s):BD s:=by
 refine⟨BC h.i64,?_⟩
 have:=yk (u:=gT s.size)
 rw[Gd h.i64]
 unfold fC at h
 omega
theorem XH{s:ByteArray}(h:fC s):qx s=im s:=by rw[XF h,Ge h]
theorem Gf{n:Int}(h:ik n):jT n=gf n:=by rw[Gd h,BA h]
theorem lR{n:Int}(h:ik n):(gf n).size≤10:=by rw[BA h];exact yk
end Go.aO
namespace Go.aO
open Go Go.eK
theorem XI(r:Rd)(n:Int):0≤(ij r n).1:=by
 unfold ij
 cases dt:((n7 ((eN r).2)) != 0)with
 |true=>exact Int.le_refl _
 |false=>
  simp only[cond_false]
  cases hC:decide ((eN r).1<0)with
  |true=>exact Int.le_refl _
  |false=>
   simp only[cond_false]
   have hC:=of_decide_eq_false hC
   cases qy:decide ((eN r).1>(if 0>n then 0 else n))with
   |true=>exact Int.le_refl _
   |false=>
    simp only[cond_false];omega
theorem Gg(v:az):lb v=n9 v:=by
 unfold lb n9 cO
 dsimp only
 have:px v.n=yg v.n:=rfl
 rw[this]
 cases (v.kind==0)<;>cases (v.kind==4)<;>cases (v.kind==1)<;>cases (v.kind==2)<;>cases (v.kind==3)<;>rfl
theorem XJ(v:az):vr v=By v:=by
 unfold vr By cO
 dsimp only
 cases (v.kind==0)<;>cases (v.kind==4)<;>cases (v.kind==1)<;>cases (v.kind==2)<;>cases (v.kind==3)<;>rfl
theorem XK(v:az):vr v=lb v:=by rw[XJ,Gg,Xj]
theorem tx(r:Rd):nh r=(r,n7 r):=by
 unfold nh n7
 cases r.made<;>rfl
def eb(s:ByteArray):Prop:=s.size≤4611686018427387904
theorem Pr{s:ByteArray}{k:Nat}(h:k<s.size):s.data.toList[k]? =some (s.data.toList.getD k 0)∧ez s (k:Int)=((s.data.toList.getD k 0).toNat:Int):=by
 have ar:k<s.data.toList.length:=h
 refine⟨by rw[List.getD_eq_getElem?_getD,List.getElem?_eq_getElem ar];rfl,?_⟩
 unfold ez
 rw[Int.toNat_natCast]
theorem Ps{s:ByteArray}(h:eb s):ym s=la s:=by
 unfold eb at h
 unfold ym la F5
 dsimp only
 rw[Int.toNat_natCast,BE (b:=tr s) (fun _ _=>True) s.size (fun i v hi _=>⟨?_,fun _ _=>trivial⟩) s.size 0 0 (Nat.zero_add _) trivial]
 ·cases bq (tr s) 0 s.size 0<;>rfl
 ·obtain⟨aE,bo⟩:=Pr hi
  unfold tr;dsimp only;rw[aE,bo];dsimp only
  have hw:IntKind.wrap .i64 ((i:Int)+1)=((i+1:Nat):Int):=by rw[rS _ (by omega) (by omega)];omega
  rw[hw];rfl
theorem qz{r:Rd}(h:eb r.rest):gV r=((eN r).2,(eN r).1):=by
 unfold gV eN
 rw[tx]
 dsimp only
 rw[Ps h]
 cases (n7 r != 0)with
 |true=>rfl
 |false=>
  simp only[cond_false]
  cases ((la r.rest).2.2 != 0)<;>rfl
theorem Pt{s:ByteArray}{a b:Nat}(h:eb s):eb (s.extract a b):=by
 unfold eb at h⊢
 rw[ByteArray.size_extract]
 omega
theorem py{r:Rd}(h:eb r.rest):eb (eN r).2.rest:=by
 unfold eN
 simp only[cond_eq_ite]
 repeat' split
 all_goals first|exact h|exact Pt h
theorem XL{r:Rd}{n:Int}(h:eb r.rest):eb (ij r n).2.rest:=by
 have:=py h
 unfold ij
 simp only[cond_eq_ite]
 repeat' split
 all_goals exact this
theorem yn{r:Rd}{n:Int}(h:eb r.rest):eb (pt r n).2.rest:=by
 have:=XL (n:=n) h
 unfold pt
 simp only[cond_eq_ite]
 repeat' split
 all_goals first|exact this|exact Pt this
theorem Pu{r:Rd}{n:Int}(h:eb r.rest):yo r n=((ij r n).2,(ij r n).1):=by
 unfold yo ij
 rw[qz h]
 dsimp only
 rw[tx]
 simp only[cond_eq_ite]
 repeat' split
 all_goals first|rfl|(simp_all[cD.den])
theorem yp{r:Rd}{n:Int}(h:eb r.rest):iJ r n=((pt r n).2,(pt r n).1):=by
 unfold iJ pt
 rw[Pu h]
 dsimp only
 rw[tx]
 simp only[cond_eq_ite]
 repeat' split
 all_goals rfl
theorem XM(r:Rd)(e:Int):BF r e=yf r e:=by
 unfold BF yf
 rw[tx]
theorem Pv(r:Rd):(⟨r.rest,r.err,r.made⟩:Rd)=r:=rfl
theorem XN{r:Rd}(h:eb r.rest):vt r=((vo r).2,(vo r).1):=by
 have aa:=py h
 unfold vt vo vn F6 yh
 rw[qz h]
 dsimp only
 rw[qz aa,yp aa]
 simp only[tx,XM,Gg,Pv]
 cases ((eN r).1==1)<;>cases ((eN r).1==2)<;>cases ((eN r).1==3)<;>cases ((eN r).1==4)<;>simp only[cond_true,cond_false,Bool.true_or,Bool.or_true,Bool.false_or,Bool.or_false,Pv]<;>(cases (n9 _ != 0)<;>simp only[cond_true,cond_false]<;>(cases (n7 _ != 0)<;>rfl))
end Go.aO
namespace Go.aO
open Go Go.eK
theorem XO{s:ByteArray}(h:eb s):Gh s:=by
 unfold eb at h
 refine⟨⟨by omega,by omega⟩,fun i _=>i≤9,Nat.zero_le _,fun i d _ hi=>?_⟩
 have hi:i≤9:=hi
 intro v5 hc
 refine⟨?_,fun pz=>?_⟩
 ·show 0≤IntKind.wrap .i64 (7*(i:Int))
  rw[rS _ (by omega) (by omega)]
  omega
 ·have pz:=of_decide_eq_false pz
  show i+1≤9
  rcases Nat.lt_or_ge i 9 with hB|hB
  ·exact hB
  ·have:i=9:=by omega
   subst this;simp only[Bool.or_eq_false_iff,Bool.and_eq_false_iff]at hc
   rcases hc.2 with h|h
   ·exact absurd h (by decide)
   ·have:=of_decide_eq_false h
    omega
theorem XP{s:ByteArray}(h:(la s).2.2=0):0≤(la s).2.1∧(la s).2.1≤(s.size:Int):=by
 obtain⟨u,t,aa,ae,au,aW⟩:=Xx (s:=s) (U:=(la s).1) (N:=(la s).2.1) (by rw[←h])
 rw[au]
 have:=congrArg ByteArray.size ae
 rw[ByteArray.size_append]at this
 omega
theorem oc{r:Rd}(h:eb r.rest):ni r:=by
 unfold ni
 rw[tx]
 intro v1 _
 refine⟨XO h,fun hc=>?_⟩
 have hc:=Xg hc
 rw[Ps h]at hc⊢
 exact XP hc
theorem XQ{r:Rd}{n:Int}(h:eb r.rest):Gi r n:=oc h
theorem rU{r:Rd}{n:Int}(h:eb r.rest):rV r n:=by
 refine⟨XQ h,?_⟩
 rw[Pu h]
 show(_ != 0)=false→_
 rw[tx]
 intro _ hd
 have hd:=of_decide_eq_false hd
 have hn:=XI r n
 have hd: ¬(ij r n).1>((ij r n).2.rest.size:Int):=hd
 exact⟨⟨hn,by omega⟩,hn,by omega⟩
theorem XR{r:Rd}(h:eb r.rest):BG r:=by
 have aa:=py h
 unfold BG
 rw[qz h]
 dsimp only
 refine⟨oc h,⟨fun _=>⟨fun _=>oc aa,fun _ _=>rU aa⟩,fun _=>⟨fun _=>⟨fun _=>oc aa,fun _ _=>rU aa⟩,fun _=>⟨fun _=>oc aa,fun _ _=>rU aa⟩⟩⟩⟩
theorem XS{r:Rd}{e:Int}(h:eb r.rest):eb (yf r e).rest:=by
 unfold yf
 cases (n7 r==0)<;>exact h
theorem XT{r:Rd}(h:eb r.rest):eb (vo r).2.rest:=by
 have aa:=py h
 have ae:eb (yh r).rest:=by
  unfold yh;simp only[cond_eq_ite]
  repeat' split
  ·exact py aa
  ·exact yn aa
  ·exact aa
 have au:eb (vn r).rest:=by
  unfold vn;simp only[cond_eq_ite]
  split
  ·exact XS ae
  ·exact ae
 unfold vo
 simp only[cond_eq_ite]
 split<;>exact au
def vu(s:ByteArray):Int × Rd:=eN (Xf s)
def vv(s:ByteArray):Int × Rd:=eN (vu s).2
def vw(s:ByteArray):Int × Rd:=eN (vv s).2
def vx(s:ByteArray):ByteArray × Rd:=pt (vw s).2 24
def vy(s:ByteArray):ByteArray × Rd:=pt (vx s).2 24
def vz(s:ByteArray):ByteArray × Rd:=pt (vy s).2 24
def Gj(s:ByteArray):az × Rd:=vo (vz s).2
theorem XU{s:ByteArray}(h:eb s):eb (vu s).2.rest∧eb (vv s).2.rest∧eb (vw s).2.rest∧eb (vx s).2.rest∧eb (vy s).2.rest∧eb (vz s).2.rest∧eb (Gj s).2.rest:=by
 have aa:eb (vu s).2.rest:=py h
 have ae:eb (vv s).2.rest:=py aa
 have au:eb (vw s).2.rest:=py ae
 have aW:eb (vx s).2.rest:=yn au
 have bN:eb (vy s).2.rest:=yn aW
 have c5:eb (vz s).2.rest:=yn bN
 exact⟨aa,ae,au,aW,bN,c5,XT c5⟩
theorem XV{s:ByteArray}(h:eb s):BH s:=by
 obtain⟨aa,ae,au,aW,bN,c5,eD⟩:=XU h
 have aE:gV ⟨s,0,true⟩=((vu s).2,(vu s).1):=qz (r:=⟨s,0,true⟩) h
 have bo:gV (vu s).2=((vv s).2,(vv s).1):=qz aa
 have cv:gV (vv s).2=((vw s).2,(vw s).1):=qz ae
 have eC:iJ (vw s).2 24=((vx s).2,(vx s).1):=yp au
 have oa:iJ (vx s).2 24=((vy s).2,(vy s).1):=yp aW
 have tz:iJ (vy s).2 24=((vz s).2,(vz s).1):=yp bN
 have BI:vt (vz s).2=((Gj s).2,(Gj s).1):=XN c5
 unfold BH
 simp only[aE,bo,cv,eC,oa,tz,BI]
 exact⟨oc (r:=⟨s,0,true⟩) h,oc aa,oc ae,rU au,rU aW,rU bN,XR c5,rU eD⟩
end Go.aO
namespace Go.aO
open Go Go.eK
def od(P:Int→Int→Bool)(x:ByteArray):Nat→Nat→Bool
 |_,0=>true
 |k,n+1=>!P (ez x (k:Int)) (k:Int)&&od P x (k+1) n
theorem Pw{P:Int→Int→Bool}{x:ByteArray}{b:Nat→Unit→Step Bool Unit}(ad: ∀i v,b i v=bif P (ez x (i:Int)) (i:Int)then .ret false else .bn ()):
 ∀(n k:Nat),bq b k n ()=bif od P x k n then .inr ()else .inl false
 |0,_=>rfl
 |n+1,k=>by
  unfold bq od;rw[ad]
  cases P (ez x (k:Int)) (k:Int)with
  |true=>rfl
  |false=>exact Pw ad n (k+1)
theorem Px{x:ByteArray}{k:Nat}(aj:k<x.size):ez x (k:Int)=((x[k]'aj).toNat:Int):=by
 rw[(Pr aj).2,List.getD_eq_getElem?_getD,List.getElem?_eq_getElem (show k<x.data.toList.length from aj)]
 rfl
theorem Py{P:Int→Int→Bool}(qA: ∀c i,128≤c→P c i=true){x:ByteArray}{b:Int→Step Bool Int}
 (ad: ∀c,b c=bif cD.den .lS x c then(bif P (cD.den .lT x c) (cD.den .lU x c)then .ret false else .bn (cD.den .kF x c))else .cN c):
 ∀(n p F:Nat),x.size-p=n→n<F→∃v,c7 b F (p:Int)=bif od P x p n then .inr v else .inl false
 |n,p,0,_,h=>absurd h (Nat.not_lt_zero _)
 |0,p,F+1,hn,_=>by
  refine⟨(p:Int),?_⟩
  have:cD.den .lS x (p:Int)=false:=decide_eq_false (by rw[Int.toNat_natCast];omega)
  rw[Bz (y:=(p:Int)) (by rw[ad,this,cond_false]),od,cond_true]
 |n+1,p,F+1,hn,hF=>by
  have ak:p<x.size:=by omega
  have aa:cD.den .lS x (p:Int)=true:=decide_eq_true (by rw[Int.toNat_natCast];exact ak)
  have au:cD.den .lU x (p:Int)=(p:Int):=by show((p:Int).toNat:Int)=p;rw[Int.toNat_natCast]
  have ae:cD.den .lT x (p:Int)=((Utf8.decode x p).1:Int):=by show((Utf8.decode x (p:Int).toNat).1:Int)=_;rw[Int.toNat_natCast]
  have aW:cD.den .kF x (p:Int)=((p+(Utf8.decode x p).2:Nat):Int):=by show(((p:Int).toNat+(Utf8.decode x (p:Int).toNat).2:Nat):Int)=_;rw[Int.toNat_natCast]
  rcases Nat.lt_or_ge (x[p]'ak).toNat 128 with ba|ba
  ·have hd:=decode_ascii x p ak ba
   have ax:((Utf8.decode x p).1:Int)=ez x (p:Int):=by rw[hd,Px ak]
   have XW:p+(Utf8.decode x p).2=p+1:=by rw[hd]
   cases aN:P (ez x (p:Int)) (p:Int)with
   |true=>
    refine⟨0,?_⟩
    unfold c7 od;rw[ad,aa,cond_true,ae,au,ax,aN];rfl
   |false=>
    obtain⟨v,a7⟩:=Py qA ad n (p+1) F (by omega) (by omega)
    refine⟨v,?_⟩
    rw[F8 (y:=((p+1:Nat):Int)) (by rw[ad,aa,cond_true,ae,au,ax,aN,cond_false,aW,XW]),a7]
    conv=>rhs;rw[od]
    rw[aN];rfl
  ·have hd:=(decode_high x p ak ba).1
   have aE:P ((Utf8.decode x p).1:Int) (p:Int)=true:=qA _ _ (by omega)
   have bo:P (ez x (p:Int)) (p:Int)=true:=qA _ _ (by rw[Px ak];omega)
   refine⟨0,?_⟩
   unfold c7 od;rw[ad,aa,cond_true,ae,au,aE,bo];rfl
theorem XX{P:Int→Int→Bool}(qA: ∀c i,128≤c→P c i=true){x:ByteArray}(tu:x.size<18446744073709551616):
 ∃(bA:Int→Prop) (gU:Int→Nat),bA 0∧gU 0<dG∧∀(d0:Int),bA d0→(cD.den .lS x d0=true→(P (cD.den .lT x d0) (cD.den .lU x d0)=false→bA (cD.den .kF x d0)∧gU (cD.den .kF x d0)<gU d0)):=by
 refine⟨fun d=>0≤d,fun d=>x.size-d.toNat,Int.le_refl _,by unfold dG;show x.size-(0:Int).toNat<_;omega,fun d hd aa ae=>?_⟩
 obtain⟨p,rfl⟩: ∃p:Nat,d=p:=⟨d.toNat,(Int.toNat_of_nonneg hd).symm⟩
 have ak:p<x.size:=by have:=of_decide_eq_true aa;rwa[Int.toNat_natCast]at this
 have au:cD.den .lU x (p:Int)=(p:Int):=by show((p:Int).toNat:Int)=p;rw[Int.toNat_natCast]
 have vA:cD.den .lT x (p:Int)=((Utf8.decode x p).1:Int):=by show((Utf8.decode x (p:Int).toNat).1:Int)=_;rw[Int.toNat_natCast]
 have aW:cD.den .kF x (p:Int)=((p+(Utf8.decode x p).2:Nat):Int):=by show(((p:Int).toNat+(Utf8.decode x (p:Int).toNat).2:Nat):Int)=_;rw[Int.toNat_natCast]
 rcases Nat.lt_or_ge (x[p]'ak).toNat 128 with ba|ba
 ·have hd:=decode_ascii x p ak ba
  rw[aW,hd];refine⟨by show(0:Int)≤_;omega,?_⟩
  show x.size-(((p+1:Nat):Int)).toNat<x.size-((p:Int)).toNat;omega
 ·have hd:=(decode_high x p ak ba).1
  rw[vA,au,qA _ _ (by omega)]at ae
  cases ae
def pA(c i:Int):Bool:=(!(decide (c≥97)&&decide (c≤122)))&&((i==0)||(((c != 95)&&(c != 45))&&((decide (c<48))||(decide (c>57)))))
theorem Pz(c i:Int)(h:128≤c):pA c i=true:=by
 unfold pA
 have aa:decide (c≤122)=false:=decide_eq_false (by omega)
 have ae:(c != 95)=true:=by simp;omega
 have au:(c != 45)=true:=by simp;omega
 have aW:decide (c>57)=true:=decide_eq_true (by omega)
 simp only[aa,ae,au,aW,Bool.and_false,Bool.not_false,Bool.and_true,Bool.or_true,Bool.true_and]
def valid(x:ByteArray):Bool:=bif((decide ((ByteArray.size x:Int)<1))||(decide ((ByteArray.size x:Int)>24)))then false else od pA x 0 x.size
theorem vB(x:ByteArray):iq x=valid x:=by
 unfold iq valid
 cases h:((decide ((ByteArray.size x:Int)<1))||(decide ((ByteArray.size x:Int)>24)))with
 |true=>rfl
 |false=>
  simp only[Bool.or_eq_false_iff,decide_eq_false_iff_not]at h;simp only[cond_false];obtain⟨v,ax⟩:=Py Pz (x:=x) (b:=fun(aY:Int)=>bif cD.den .lS x aY then(bif pA (cD.den .lT x aY) (cD.den .lU x aY)then Step.ret false else .bn (cD.den .kF x aY))else .cN aY) (fun _=>rfl) x.size 0 dG (by omega) (by unfold dG;omega)
  have:(c7 (fun(aY:Int)=>bif cD.den .lS x aY then(bif pA (cD.den .lT x aY) (cD.den .lU x aY)then Step.ret false else .bn (cD.den .kF x aY))else .cN aY) dG 0:Bool⊕Int)=_:=ax
  show Sum.elim _ _ (c7 (fun(aY:Int)=>bif cD.den .lS x aY then(bif pA (cD.den .lT x aY) (cD.den .lU x aY)then Step.ret false else .bn (cD.den .kF x aY))else .cN aY) dG 0:Bool⊕Int)=_
  rw[this]
  cases od pA x 0 x.size<;>rfl
theorem qB(x:ByteArray):nj x:=by
 intro h
 simp only[Bool.or_eq_false_iff,decide_eq_false_iff_not]at h
 exact XX Pz (x:=x) (by omega)
theorem vC(x:ByteArray):jU x=valid x:=by
 unfold jU valid
 dsimp only
 cases h:((decide ((ByteArray.size x:Int)<1))||(decide ((ByteArray.size x:Int)>24)))with
 |true=>rfl
 |false=>
  simp only[cond_false];rw[Int.toNat_natCast];show Sum.elim _ _ (bq (fun(i6:Nat) (_:Unit)=>bif pA (ez x (i6:Int)) (i6:Int)then(Step.ret false:Step Bool Unit)else .bn ()) 0 x.size ())=_
  rw[Pw (P:=pA) (x:=x) (fun _ _=>rfl)]
  cases od pA x 0 x.size<;>rfl
theorem rW(x:ByteArray):pB x:=by
 intro h
 simp only[Bool.or_eq_false_iff,decide_eq_false_iff_not]at h
 omega
end Go.aO
namespace Go.aO
open Go Go.eK
theorem vD(a b:ByteArray):ByteArray.size (ByteArray.append a b)=a.size+b.size:=ByteArray.size_append
theorem vE{n:Int}(aa: -1099511627776≤n)(ae:n≤1099511627776):ik n:=⟨by omega,by omega⟩
structure PA (v:az):Prop where
 k:ik v.kind
 n:ik v.n
 s:fC v.s
theorem XY{v:az}(h:lb v≠0):pC v=gf 0:=by
 unfold pC
 rw[show(lb v != 0)=true by simpa using h]
 rfl
theorem XZ{s:ByteArray}(h:s.size≤60):fC s:=by unfold fC;omega
theorem X0{s:ByteArray}(h:s.size≤60):(im s).size≤70:=by
 rw[Ge (XZ h),ByteArray.size_append]
 have:=yk (u:=gT s.size)
 omega
theorem Gk:ik 0:=vE (by decide) (by decide)
theorem X1(v:az):(pC v).size≤80:=by
 have aP:=lR Gk
 by_cases h:lb v=0
 ·have hc:n9 v=0:=by rw[←Gg];exact h
  unfold pC;rw[show(lb v != 0)=false by simpa using h]
  rcases XA hc with⟨aa,ae,au⟩|⟨aa,ae,au,aW⟩|⟨aa,ae,au⟩
  ·rw[aa]
   show(gf 0).size≤80;omega
  ·have hn:=lR (vE au aW)
   rcases aa with aa|aa|aa
   ·rw[aa]
    show(ByteArray.append (gf 1) (gf v.n)).size≤80;rw[vD]
    have:=lR (n:=1) (vE (by decide) (by decide))
    omega
   ·rw[aa]
    show(ByteArray.append (gf 2) (gf v.n)).size≤80;rw[vD]
    have:=lR (n:=2) (vE (by decide) (by decide))
    omega
   ·rw[aa]
    show(ByteArray.append (gf 3) (gf v.n)).size≤80;rw[vD]
    have:=lR (n:=3) (vE (by decide) (by decide))
    omega
  ·have ai:=X0 au
   rw[aa];show(ByteArray.append (gf 4) (im v.s)).size≤80;rw[vD]
   have:=lR (n:=4) (vE (by decide) (by decide))
   omega
 ·rw[XY h]
  omega
def BJ(k n:Int)(s:ByteArray)(b:Bool):Prop:=(b=true→(ob n∧(gf k).size+(gf n).size≤9223372036854775807))∧(b=false→((k==4)=true→(rT s∧(gf k).size+(im s).size≤9223372036854775807)))
theorem X2{v:az}(ax:PA v):Gl v:=by
 have key: ∀(k n:Int) (s:ByteArray),ik k→ik n→fC s→(ob k)∧((k==1)=true→BJ k n s (k==1))∧((k==1)=false→((k==2)=true→BJ k n s (k==2))∧((k==2)=false→BJ k n s (k==3))):=by
  intro k n s aj hn ai
  have cf:=lR aj
  have a2:=lR hn
  have a3:=vq ai
  have af: ∀b,BJ k n s b:=fun b=>⟨fun _=>⟨vp hn,by omega⟩,fun _ _=>⟨yl ai,by omega⟩⟩
  exact⟨vp aj,fun _=>af _,fun _=>⟨fun _=>af _,fun _=>af _⟩⟩
 exact⟨fun _=>key 0 0 ⟨#[]⟩ Gk Gk (by unfold fC;exact Nat.zero_le _),fun _=>key v.kind v.n v.s ax.k ax.n ax.s⟩
structure BK (q:aT):Prop where
 k:ik q.kind
 n:ik q.e5
 d:ik q.key.dev
 c:fC q.key.cG
 a:fC q.key.attr
 m:fC q.name
 v:PA q.value
 t:fC q.text
theorem PB{q:aT}(h:BK q):(gf q.kind).size≤10∧(gf q.e5).size≤10∧(gf q.key.dev).size≤10∧(im q.key.cG).size≤140737488351242∧(im q.key.attr).size≤140737488351242∧(im q.name).size≤140737488351242∧(pC q.value).size≤80∧(im q.text).size≤140737488351242:=
 ⟨lR h.k,lR h.n,lR h.d,vq h.c,vq h.a,vq h.m,X1 _,vq h.t⟩
theorem X3{q:aT}(h:BK q):eb (yq q):=by
 obtain⟨aa,ae,au,aW,bN,c5,eD,pz⟩:=PB h
 have X4:(pC ⟨q.value.kind,q.value.n,q.value.s⟩).size≤80:=eD
 unfold eb yq
 simp only[vD]
 omega
theorem X5{q:aT}(h:BK q):Gm q:=by
 obtain⟨aa,ae,au,aW,bN,c5,eD,pz⟩:=PB h
 have X4:(pC ⟨q.value.kind,q.value.n,q.value.s⟩).size≤80:=eD
 refine⟨vp h.k,vp h.n,?_,vp h.d,?_,yl h.c,?_,yl h.a,?_,yl h.m,?_,X2 h.v,?_,yl h.t,?_⟩<;>(try simp only[vD])<;>omega
end Go.aO
namespace Go.aO
open Go Go.eK
theorem Gn{l:List ByteArray}(h:l.length≤1000000):vF l:=by
 unfold vF maxLen
 omega
theorem X6{l:List bV}(h:l.length≤1000000):BL l:=by
 unfold BL maxLen
 omega
theorem X7(l:List ByteArray):BM l:=by
 unfold BM
 repeat' (first|exact trivial|exact qB _|intro _|refine And.intro ?_ ?_|refine Exists.intro (fun _ _=>True) (And.intro trivial ?_))
theorem x8(a:Attr):rX a:=by
 unfold rX
 repeat' (first|exact trivial|exact qB _|exact X7 _|intro _|refine And.intro ?_ ?_|refine Exists.intro (fun _ _=>True) (And.intro trivial ?_))
theorem yb(a:Attr)(v:az):tA a v:=x8 a
theorem BN{α:Type}{l:List α}{i:Nat}{d:α}(h:i<l.length):List.getD l i d∈l:=by
 rw[List.getD_eq_getElem?_getD,List.getElem?_eq_getElem h]
 exact List.getElem_mem h
theorem toNat_cast(n:Nat):Int.toNat (n:Int)=n:=Int.toNat_natCast n
theorem PC{c:aA}{x:ByteArray}(h: ∀a∈c.attrs,a.enum.length≤64):yr c x:=by
 refine⟨fun _ _=>True,trivial,fun i _ hi _=>⟨fun _=>Gn ?_,fun _=>trivial⟩⟩
 rw[toNat_cast]at hi⊢
 have:=h _ (BN (d:=av .Attr) hi)
 omega
theorem PD(x y:List ByteArray):Gp x y:=by
 intro h
 have h:((x.length:Int) != (y.length:Int))=false:=h
 have h:(x.length:Int)=(y.length:Int):=by simpa using h
 refine⟨fun _ _=>True,trivial,fun i _ hi _=>⟨?_,fun _=>trivial⟩⟩
 rw[toNat_cast]at hi
 omega
theorem X8(a b:Attr):Gq a b:=fun _=>PD _ _
theorem X9(x:bV)(a b:Attr):BO x a b:=by
 unfold BO
 repeat' (first|exact trivial|exact yb _ _|exact X8 _ _|intro _|refine And.intro ?_ ?_)
theorem Ya{c:aA}(a:Attr)(x:bV)(h: ∀a∈c.attrs,a.enum.length≤64):BP c a x:=by
 unfold BP
 repeat' (first|exact trivial|exact PC h|exact X9 _ _ _|intro _|refine And.intro ?_ ?_)
theorem tB{α:Type}{l:List α}{i:Int}(aP:0≤i)(h:i≤l.length):jD l.length none (some i):=by
 simp only[jD]
 omega
theorem Yb{c:aA}{i:Int}(h: ∀a∈c.attrs,a.enum.length≤64)(aP:0≤i)(aa:i<c.commands.length):BQ c i:=by
 unfold BQ
 repeat' (first|exact trivial|exact aP|exact aa|exact qB _|exact x8 _|exact Ya _ _ h|exact tB aP (by omega)|intro _|refine And.intro ?_ ?_|refine Exists.intro (fun _ _=>True) (And.intro trivial ?_))
theorem ih{a:Int}(h:(a != 0)=false):a=0:=by simpa using h
theorem Yc{l:List ByteArray}(h:vG l=0):l.length≤64:=by
 unfold vG at h
 dsimp only at h
 simp only[cond_eq_ite]at h
 split at h
 ·cases h
 ·rename_i ai
  simp only[Bool.or_eq_true,decide_eq_true_eq,not_or]at ai;omega
theorem Gr{a:Attr}(h:gH a=0):a.enum.length≤64:=by
 unfold gH at h
 dsimp only at h
 simp only[cond_eq_ite]at h
 repeat' split at h
 all_goals first|(cases h;done)|exact Yc h|(rename_i ai;simp only[decide_eq_true_eq]at ai;omega)
theorem OV(c:aA):BR c:=by
 refine⟨qB _,fun _ _=>⟨fun k _=>∀j,j<k→∀a,c.attrs[j]? =some a→a.enum.length≤64,fun j af=>absurd af (by omega),fun i _ hi b2=>⟨x8 _,fun pz=>⟨?_,⟨fun _ _=>True,trivial,fun _ _ _ _ _=>trivial,fun _ _=>?_⟩⟩⟩,fun _ b2=>?_⟩⟩
 ·rw[toNat_cast]at hi
  exact tB (by omega) (by omega)
 ·have pz:=Gr (ih pz)
  rw[toNat_cast]at hi pz;show ∀j,j<i+1→∀a,c.attrs[j]? =some a→a.enum.length≤64;intro j af a ba
  by_cases gx:j=i
  ·subst gx
   rw[List.getD_eq_getElem?_getD,ba]at pz
   exact pz
  ·exact b2 j (by omega) a ba
 ·rw[toNat_cast]at b2
  have dt: ∀a∈c.attrs,a.enum.length≤64:=fun a ba=>by
   obtain⟨j,af,rfl⟩:=List.mem_iff_getElem.1 ba;exact b2 j af _ (List.getElem?_eq_getElem af)
  refine⟨fun _ _=>True,trivial,fun i _ hi _=>⟨Yb dt (by omega) (by rw[toNat_cast]at hi;omega),fun _=>trivial⟩,fun _ _=>⟨fun _ _=>True,trivial,fun i _ hi _=>⟨qB _,fun _=>⟨tB (by omega) (by rw[toNat_cast]at hi;omega),fun _=>trivial⟩⟩⟩⟩
theorem Yd(l:List aA):Gs l:=by
 refine fun _=>⟨fun _ _=>True,trivial,fun i _ hi _=>⟨OV _,fun _=>⟨tB (by omega) (by rw[toNat_cast]at hi;omega),⟨fun _ _=>True,trivial,fun _ _ _ _ _=>trivial,fun _ _=>trivial⟩⟩⟩⟩
theorem my{n:Int}(aa: -9223372036854775808≤n)(ae:n≤9223372036854775807):IntKind.wrap .i64 n=n:=by
 rw[IntKind.wrap_i64]
 omega
theorem Gt(h:Home):yt h:=by
 refine⟨Yd _,fun _ au=>⟨fun _ _=>True,trivial,fun i _ hi _ _=>⟨fun ax=>?_,fun _ _=>⟨qB _,fun _ _=>trivial⟩⟩⟩⟩
 have ax:=of_decide_eq_true ax
 have au:=of_decide_eq_false au
 rw[toNat_cast]at hi
 show 0≤IntKind.wrap .i64 ((i:Int)-1)∧IntKind.wrap .i64 ((i:Int)-1)<(h.bs.length:Int)
 rw[my (by omega) (by omega)]
 omega
theorem Gu(h:Home)(x:Int):yu h x:=Gt h
end Go.aO
namespace Go.aO
open Go Go.eK
def cd(q:Nat→Bool)(n:Nat):Option Nat:=(List.range n).find? q
theorem hA{q:Nat→Bool}{n i:Nat}(h:cd q n=some i):i<n∧q i=true∧∀j,j<i→q j=false:=by
 unfold cd at h
 rw[List.find?_range_eq_some]at h
 obtain⟨aa,ae,au⟩:=h
 exact⟨List.mem_range.1 ae,aa,fun j af=>by simpa using au j af⟩
theorem pD{q:Nat→Bool}{n:Nat}(h:cd q n=none): ∀j,j<n→q j=false:=fun j af=>by
 unfold cd at h
 rw[List.find?_range_eq_none]at h
 simpa using h j af
theorem tl{q:Nat→Bool}{n:Nat}(h: ∀j,j<n→q j=false):cd q n=none:=by
 unfold cd
 rw[List.find?_range_eq_none]
 exact fun j af=>by simp[h j af]
theorem yv{q:Nat→Bool}{n i:Nat}(hi:i<n)(aN:q i=true)(hn: ∀j,j<i→q j=false):cd q n=some i:=by
 unfold cd
 rw[List.find?_range_eq_some]
 exact⟨aN,List.mem_range.2 hi,fun j af=>by simp[hn j af]⟩
theorem BS{q q':Nat→Bool}{n:Nat}(h: ∀j,j<n→q j=q' j):cd q n=cd q' n:=by
 cases aa:cd q' n with
 |none=>exact tl fun j af=>by rw[h j af];exact pD aa j af
 |some i=>
  obtain⟨a,b,c⟩:=hA aa;exact yv a (by rw[h i a];exact b) fun j af=>by rw[h j (by omega)];exact c j af
theorem Ye{R:Type}{p:Nat→Bool}{f:Nat→R}{b:Nat→Unit→Step R Unit}(ad: ∀i c,b i c=bif p i then .ret (f i)else .bn ()):
 ∀(n k:Nat),bq b k n ()=match(List.range' k n).find? p with|some i=>.inl (f i)|none=>.inr ():=by
 intro n
 induction n with
 |zero=>intro k;rfl
 |succ n a7=>
  intro k;unfold bq;rw[ad,List.range'_succ,List.find?_cons]
  cases p k with
  |true=>rfl
  |false=>exact a7 (k+1)
theorem hq{R Q:Type}{p:Nat→Bool}{F:Nat→R}{b:Nat→Unit→Step R Unit}{f:R→Q}{g:Unit→Q}{n:Nat}(ad: ∀i u,b i u=bif p i then .ret (F i)else .bn ()):
 Sum.elim f g (bq b 0 n ())=match cd p n with|some i=>f (F i)|none=>g ():=by
 rw[Ye ad,←List.range_eq_range']
 show Sum.elim f g (match cd p n with|some i=>.inl (F i)|none=>.inr ())=_
 cases cd p n<;>rfl
theorem PE{R A:Type}{b b':Nat→A→Step R A}: ∀(n k:Nat) (a:A),(∀i a,k≤i→i<k+n→b i a=b' i a)→bq b k n a=bq b' k n a
 |0,_,_,_=>rfl
 |n+1,k,a,h=>by
  unfold bq;rw[h k a (Nat.le_refl _) (by omega)]
  cases b' k a with
  |ret r=>rfl
  |cN bf=>rfl
  |bn bf=>exact PE n (k+1) bf fun i a aa ae=>h i a (by omega) (by omega)
theorem el{R Q A:Type}{f:R→Q}{g g':A→Q}{b b':Nat→A→Step R A}{n:Nat}{a:A}(ad: ∀i a,i<n→b i a=b' i a)(ah: ∀a,g a=g' a):Sum.elim f g (bq b 0 n a)=Sum.elim f g' (bq b' 0 n a):=by
 rw[PE n 0 a fun i a _ h=>ad i a (by omega),show g=g' from funext ah]
theorem nk(a b:ByteArray):cO .eql a b=decide (a=b):=tk a b
theorem Gv(a b:ByteArray):cO .neq a b= !decide (a=b):=by
 show(!cW a b)=_
 rw[tk]
theorem PF{q:Nat→Bool}{n i:Nat}(hi:i<n)(aN:q i=true):decide ((match cd q n with|some j=>(j:Int)|none=> -1)<(i:Int))=(cd q i).isSome:=by
 cases h:cd q n with
 |none=>rw[pD h i hi]at aN;cases aN
 |some j=>
  obtain⟨aa,ae,au⟩:=hA h
  by_cases af:j<i
  ·rw[yv af ae au]
   exact decide_eq_true (by show(j:Int)<(i:Int);omega)
  ·rw[tl fun k aj=>au k (by omega)]
   exact decide_eq_false (by show ¬(j:Int)<(i:Int);omega)
theorem BT(l:List ByteArray)(x:ByteArray):lV l x=match cd (fun i=>decide (x=l.getD i (av .str))) l.length with|some i=>(i:Int)|none=> -1:=by
 unfold lV
 dsimp only
 rw[toNat_cast,hq (p:=fun i=>decide (x=l.getD i (av .str))) (F:=fun i=>(i:Int)) (fun i u=>by simp only[nk,toNat_cast])]
theorem Gw(l:List ByteArray)(x:ByteArray):qC l x=lV l x:=by
 rw[BT]
 unfold qC
 dsimp only
 rw[toNat_cast,hq (p:=fun i=>decide (l.getD i (av .str)=x)) (F:=fun i=>(i:Int)) (fun i u=>by simp only[nk,toNat_cast]),BS (q':=fun i=>decide (x=l.getD i (av .str))) fun j _=>decide_eq_decide.2 eq_comm]
theorem Yf(l:List ByteArray)(x:ByteArray):tC l x=(cd (fun i=>decide (x=l.getD i (av .str))) l.length).isSome:=by
 unfold tC
 dsimp only
 rw[toNat_cast,hq (p:=fun i=>decide (x=l.getD i (av .str))) (F:=fun _=>true) (fun i u=>by simp only[nk,toNat_cast];rw[show(decide (l.getD i (av .str)=x))=decide (x=l.getD i (av .str))from decide_eq_decide.2 eq_comm])]
 all_goals cases cd (fun i=>decide (x=l.getD i (av .str))) l.length<;>rfl
theorem Yg(l:List ByteArray)(x:ByteArray):iK l x=(cd (fun i=>decide (x=l.getD i (av .str))) l.length).isSome:=by
 unfold iK
 rw[BT]
 cases cd (fun i=>decide (x=l.getD i (av .str))) l.length with
 |none=>rfl
 |some i=>exact decide_eq_true (by show(i:Int)≥0;omega)
theorem getD_take{α:Type}{l:List α}{i j:Nat}{d:α}(h:j<i):(l.take i).getD j d=l.getD j d:=by
 rw[List.getD_eq_getElem?_getD,List.getD_eq_getElem?_getD,List.getElem?_take,if_pos h]
theorem rY{α:Type}(l:List α)(i:Nat):iL l none (some (i:Int))=l.take i:=rfl
theorem Yh{l:List ByteArray}{i:Nat}(hi:i<l.length):decide (pE l (l.getD i (av .str))<(i:Int))=tC (iL l none (some (i:Int))) (l.getD i (av .str)):=by
 unfold pE
 rw[BT,Yf,rY,List.length_take,Nat.min_eq_left (by omega),PF hi (decide_eq_true rfl)]
 rw[BS (q':=fun j=>decide (l.getD i (av .str)=(l.take i).getD j (av .str))) fun j af=>by rw[getD_take af]]
theorem Yi(l:List ByteArray):(bif((decide ((List.length l:Int)<1))||(decide ((List.length l:Int)>64)))then 3 else
    Sum.elim (fun r=>r) (fun _=>0) (bq (fun(i13:Nat) (_:Unit)=>bif(!(jU (List.getD l (Int.toNat (i13:Int)) (av .str))))then(.ret 10:Step Int Unit)else
      bif(tC (iL l none (some (i13:Int))) (List.getD l (Int.toNat (i13:Int)) (av .str)))then .ret 9 else .bn ()) 0 (Int.toNat (List.length l:Int)) ():Int⊕Unit))=vG l:=by
  unfold vG;dsimp only;refine congrArg (cond _ 3) ?_
  rw[toNat_cast];refine el (fun i _ hi=>?_) fun _=>rfl
  simp only[toNat_cast,vC,vB];rw[Yh hi]
theorem yw(a:Attr):mz a=gH a:=by
 unfold mz gH px
 rw[vC,vB]
 dsimp only
 rw[Yi]
 have aj:(a.kind != 3)= !(a.kind==3):=rfl
 rw[aj]
 have ad:((!(decide (a.min≥ -1099511627776)&&decide (a.min≤1099511627776))|| !(decide (a.max≥ -1099511627776)&&decide (a.max≤1099511627776)))||decide (a.min>a.max))=((decide (a.min< -1099511627776)||decide (a.max>1099511627776))||decide (a.min>a.max)):=by
  rw[Bool.eq_iff_iff];simp only[Bool.or_eq_true,Bool.not_eq_true',Bool.and_eq_false_iff,decide_eq_false_iff_not,decide_eq_true_eq];omega
 rw[←ad]
 cases a.kind==3<;>cases a.kind==2<;>cases (decide (a.min≥ -1099511627776)&&decide (a.min≤1099511627776))<;>rfl
end Go.aO
namespace Go.aO
open Go Go.eK
theorem Yj(v:Int):(ld v != v)=((decide (v<(-1099511627776)))||(decide (v>1099511627776))):=by
 have e:ld v=if(1099511627776:Int)<(if(-1099511627776:Int)>v then(-1099511627776:Int)else v)then(1099511627776:Int)else(if(-1099511627776:Int)>v then(-1099511627776:Int)else v):=rfl
 rw[e,Bool.eq_iff_iff]
 simp only[bne_iff_ne,Bool.or_eq_true,decide_eq_true_eq]
 split<;>split<;>omega
theorem yx(a:Attr)(v:az):mA a v=hD a v:=by
 unfold mA hD
 rw[yw,XK]
 dsimp only
 generalize (v.kind==2&&(decide (v.n<a.min)||decide (v.n>a.max)))=A
 cases A<;>rfl
theorem PG(x y:List ByteArray):yy x y=tD x y:=rfl
theorem Gx(x y:List ByteArray):tD x y=decide (x=y):=by
 unfold tD
 dsimp only
 by_cases h:(x.length:Int)=(y.length:Int)
 ·rw[show((x.length:Int) != (y.length:Int))=false by simpa using h,cond_false,toNat_cast,hq (p:=fun i=>!decide (x.getD i (av .str)=y.getD i (av .str))) (F:=fun _=>false) (fun i u=>by simp only[Gv,toNat_cast])]
  cases hf:cd (fun i=>!decide (x.getD i (av .str)=y.getD i (av .str))) x.length with
  |none=>
   have hf:=pD hf
   refine(decide_eq_true ?_).symm
   refine List.ext_getElem (by omega) fun i aa ae=>?_
   have:=hf i aa
   simpa[List.getD_eq_getElem?_getD,List.getElem?_eq_getElem aa,List.getElem?_eq_getElem ae]using this
  |some i=>
   obtain⟨_,ae,_⟩:=hA hf;refine(decide_eq_false fun e=>?_).symm
   subst e;simp at ae
 ·rw[show((x.length:Int) != (y.length:Int))=true by simpa using h,cond_true]
  exact(decide_eq_false fun e=>h (by rw[e])).symm
theorem Yk(x y:Attr):vH x y=((y.kind==x.kind)&&yy y.enum x.enum):=by
 unfold vH
 rw[PG,Gx,Gx]
 have aa:(x.kind==y.kind)=(y.kind==x.kind):=by rw[Bool.eq_iff_iff];simp only[beq_iff_eq];exact eq_comm
 have ae:decide (x.enum=y.enum)=decide (y.enum=x.enum):=decide_eq_decide.2 eq_comm
 dsimp only
 rw[aa,ae]
 cases y.kind==x.kind<;>rfl
theorem Yl(x:bV)(a b:Attr):BU x a b=vI x a b:=by
 unfold BU vI
 rw[Yk]
 simp only[yx]
 cases b.kind==a.kind<;>cases x.kind==1<;>rfl
theorem Ym(a:Attr):yz a ⟨⟨#[]⟩,0,0,0,[],false,false⟩=tE a:=by
 unfold yz tE
 dsimp only
 rw[PG,Gx]
 have h:decide (a.enum=[])=((a.enum.length:Int)==0):=by
  rw[Bool.eq_iff_iff];simp
 rw[h]
 generalize (((cO .eql a.name ⟨#[]⟩&&a.kind==0)&&a.min==0)&&a.max==0)=A
 cases A<;>cases ((a.enum.length:Int)==0)<;>cases a.e6<;>cases a.safety<;>rfl
theorem yd(c:aA)(x:ByteArray):jb c x=match cd (fun i=>decide ((c.attrs.getD i (av .Attr)).name=x)) c.attrs.length with|some i=>(i:Int)|none=> -1:=by
 unfold jb
 dsimp only
 rw[toNat_cast,hq (p:=fun i=>decide ((c.attrs.getD i (av .Attr)).name=x)) (F:=fun i=>(i:Int)) (fun i u=>by simp only[nk,toNat_cast])]
 all_goals cases cd (fun i=>decide ((c.attrs.getD i (av .Attr)).name=x)) c.attrs.length<;>rfl
theorem Gy(c:aA)(x:ByteArray):rZ c x=match cd (fun i=>decide ((c.attrs.getD i (av .Attr)).name=x)) c.attrs.length with|some i=>(c.attrs.getD i (av .Attr),true)|none=>(⟨⟨#[]⟩,0,0,0,[],false,false⟩,false):=by
 unfold rZ
 dsimp only
 rw[toNat_cast,hq (p:=fun i=>decide ((c.attrs.getD i (av .Attr)).name=x)) (F:=fun i=>(c.attrs.getD i (av .Attr),true)) (fun i u=>by simp only[nk,toNat_cast]<;>rfl)]
 all_goals cases cd (fun i=>decide ((c.attrs.getD i (av .Attr)).name=x)) c.attrs.length<;>rfl
theorem PH(c:aA)(x:ByteArray):tF c x=rZ c x:=by
 unfold tF
 rw[yd,Gy]
 cases cd (fun i=>decide ((c.attrs.getD i (av .Attr)).name=x)) c.attrs.length with
 |none=>rfl
 |some i=>
  dsimp only;rw[decide_eq_false (show ¬(i:Int)<0 by omega),cond_false,toNat_cast]
theorem Yn(c:aA)(a:Attr)(x:bV):yA c a x=kD c a x:=by
 unfold yA kD
 simp only[PH,Yl,←Yj]
 cases x.kind==3<;>rfl
theorem Yo(c:aA){k:Nat}(aj:k<c.commands.length):yB c (k:Int)=qD c (k:Int):=by
 unfold yB qD
 simp only[vC,vB,Yn,yw,Ym,toNat_cast,rY,List.length_take,Nat.min_eq_left (Nat.le_of_lt aj)]
 refine congrArg (cond _ 10) ?_
 refine el (fun i _ hi=>?_) fun _=>rfl
 rw[getD_take hi]
theorem PI(c:aA):yC c=oe c:=by
 unfold yC oe
 dsimp only
 generalize (((decide ((List.length c.attrs:Int)>12))||(decide ((List.length c.commands:Int)>12)))||(decide ((List.length c.events:Int)>12)))=A
 rw[toNat_cast,hq (p:=fun i=>decide ((List.length ((List.getD c.commands i (av .Command)).c4):Int)>12)) (F:=fun _=>true) (fun i u=>by simp only[toNat_cast]),hq (p:=fun i=>decide ((List.length ((List.getD c.commands i (av .Command)).c4):Int)>12)) (F:=fun _=>true) (fun i u=>by simp only[toNat_cast])]
 all_goals cases A<;>cases cd (fun i=>decide ((List.length ((List.getD c.commands i (av .Command)).c4):Int)>12)) c.commands.length<;>rfl
theorem Yp{c:aA}{i:Nat}(hi:i<c.attrs.length):decide (jb c ((c.attrs.getD i (av .Attr)).name)<(i:Int))=(cd (fun j=>decide ((c.attrs.getD j (av .Attr)).name=(c.attrs.getD i (av .Attr)).name)) i).isSome:=by
 rw[yd]
 exact PF hi (decide_eq_true rfl)
theorem Gz{α R Q:Type}(nm:α→ByteArray)(l:List α)(n:Nat)(d:α)(x:ByteArray)(r:R)(f:R→Q)(g:Unit→Q):
 Sum.elim f g (bq (fun(j:Nat) (_:Unit)=>bif cO .eql (nm (l.getD j d)) x then .ret r else .bn ()) 0 n ())=bif(cd (fun j=>decide (nm (l.getD j d)=x)) n).isSome then f r else g ():=by
 rw[hq (p:=fun j=>decide (nm (l.getD j d)=x)) (F:=fun _=>r) (fun i u=>by simp only[nk])]
 cases cd (fun j=>decide (nm (l.getD j d)=x)) n<;>rfl
theorem BV{α R Q:Type}(nm:α→ByteArray)(l:List α)(n:Nat)(d:α)(x:ByteArray)(r:R)(f:R→Q)(g:Unit→Q):
 Sum.elim f g (bq (fun(j:Nat) (_:Unit)=>bif cO .eql (nm ((l.take n).getD j d)) x then .ret r else .bn ()) 0 n ())=bif(cd (fun j=>decide (nm (l.getD j d)=x)) n).isSome then f r else g ():=by
 rw[Gz nm (l.take n),BS (q':=fun j=>decide (nm (l.getD j d)=x)) fun j af=>by rw[getD_take af]]
theorem FT(c:aA):qE c=jc c:=by
 unfold qE jc
 simp only[vC,vB,PI,yw,toNat_cast]
 refine congrArg (cond _ 10) (congrArg (cond _ 3) ?_)
 refine el (fun i _ hi=>?_) fun _=>el (fun i _ hi=>?_) fun _=>el (fun i _ hi=>?_) fun _=>rfl
 ·refine congrArg (cond _ _) ?_
  rw[Yp hi,rY,List.length_take,Nat.min_eq_left (Nat.le_of_lt hi),BV (fun a:Attr=>a.name)]
 ·rw[Yo c hi]
 ·refine congrArg (cond _ _) ?_
  rw[Gz (fun s:ByteArray=>s),Yg,rY,List.length_take,Nat.min_eq_left (Nat.le_of_lt hi)];rw[BS (q':=fun j=>decide (c.events.getD i (av .str)=(c.events.take i).getD j (av .str))) fun j af=>by rw[getD_take af];exact decide_eq_decide.2 eq_comm]
theorem PJ(l:List aA):yD l=nn l:=by
 unfold yD nn
 simp only[FT,toNat_cast]
 refine congrArg (cond _ 3) ?_
 refine el (fun i _ hi=>?_) fun _=>rfl
 refine congrArg (cond _ _) ?_
 rw[Gz (fun a:aA=>a.name),rY,List.length_take,Nat.min_eq_left (Nat.le_of_lt hi),BV (fun a:aA=>a.name)]
end Go.aO
namespace Go.aO
open Go Go.eK
theorem tG{e:Nat→Int}{b:Nat→Unit→Step Int Unit}{g:Unit→Int}{n:Nat}(ad: ∀i,i<n→b i ()=bif(e i != 0)then .ret (e i)else .bn ()):
 Sum.elim (fun r=>r) g (bq b 0 n ())=0↔(∀i,i<n→e i=0)∧g ()=0:=by
 rw[el (b':=fun i _=>bif(e i != 0)then .ret (e i)else .bn ()) (fun i _ hi=>ad i hi) fun _=>rfl,hq (p:=fun i=>e i != 0) (F:=fun i=>e i) (fun _ _=>rfl)]
 cases h:cd (fun i=>e i != 0) n with
 |none=>
  have h:=pD h
  exact⟨fun ah=>⟨fun i hi=>by simpa using h i hi,ah⟩,fun ah=>ah.2⟩
 |some i=>
  obtain⟨aa,ae,_⟩:=hA h
  have ae:e i≠0:=by simpa using ae
  exact⟨fun he=>absurd he ae,fun he=>absurd (he.1 i aa) ae⟩
theorem hR{c:Bool}{x y:Int}(hx:x≠0)(h:(bif c then x else y)=0):c=false∧y=0:=by
 cases c with
 |true=>exact absurd h hx
 |false=>exact⟨rfl,h⟩
theorem qF{x y:Int}(h:(bif(x != 0)then x else y)=0):x=0∧y=0:=by
 cases hx:(x != 0)with
 |true=>
  rw[hx]at h
  have h:x=0:=h
  rw[h]at hx;simp at hx
 |false=>
  rw[hx]at h;exact⟨by simpa using hx,h⟩
structure mB (c:aA):Prop where
 wide:oe c=false
 attrs: ∀i,i<c.attrs.length→gH (c.attrs.getD i (av .Attr))=0∧(cd (fun j=>decide ((c.attrs.getD j (av .Attr)).name=(c.attrs.getD i (av .Attr)).name)) i).isSome=false
 FW: ∀i,i<c.commands.length→qD c (i:Int)=0
theorem x9{c:aA}(h:jc c=0):mB c:=by
 unfold jc at h
 dsimp only at h
 obtain⟨_,h⟩:=hR (by decide) h
 obtain⟨hw,h⟩:=hR (by decide) h
 simp only[toNat_cast]at h
 obtain⟨ba,h⟩:=(tG (e:=fun i=>bif(gH (c.attrs.getD i (av .Attr)) != 0)then gH (c.attrs.getD i (av .Attr))else bif(cd (fun j=>decide ((c.attrs.getD j (av .Attr)).name=(c.attrs.getD i (av .Attr)).name)) i).isSome then 9 else 0) fun i hi=>by
  rw[rY,List.length_take,Nat.min_eq_left (Nat.le_of_lt hi),BV (fun a:Attr=>a.name)]
  cases aS:(gH (c.attrs.getD i (av .Attr)) != 0)with
  |true=>simp only[cond_true,aS]
  |false=>
   simp only[cond_false]
   cases (cd (fun j=>decide ((c.attrs.getD j (av .Attr)).name=(c.attrs.getD i (av .Attr)).name)) i).isSome<;>rfl).1 h
 obtain⟨hc,_⟩:=(tG (e:=fun i=>qD c (i:Int)) fun i hi=>rfl).1 h
 refine⟨hw,fun i hi=>?_,hc⟩
 obtain⟨aa,ae⟩:=qF (ba i hi)
 exact⟨aa,(hR (by decide) ae).1⟩
theorem mB.enum{c:aA}(h:mB c): ∀a∈c.attrs,a.enum.length≤64:=fun a ba=>by
 obtain⟨j,af,rfl⟩:=List.mem_iff_getElem.1 ba
 have:=(h.attrs j af).1
 rw[List.getD_eq_getElem?_getD,List.getElem?_eq_getElem af]at this
 exact Gr this
theorem GA{q:Nat→Bool}{n:Nat}(h:(cd q n).isSome=false): ∀j,j<n→q j=false:=by
 cases hf:cd q n with
 |none=>exact pD hf
 |some i=>rw[hf]at h;cases h
theorem mB.Yq{c:aA}(h:mB c): ∀d∈c.commands,d.c4.length≤12:=fun d hd=>by
 obtain⟨j,af,rfl⟩:=List.mem_iff_getElem.1 hd
 have hw:=h.wide
 unfold oe at hw
 dsimp only at hw
 rw[toNat_cast,hq (p:=fun i=>decide ((List.length ((List.getD c.commands i (av .Command)).c4):Int)>12)) (F:=fun _=>true) (fun i u=>by simp only[toNat_cast])]at hw
 cases hf:cd (fun i=>decide ((List.length ((List.getD c.commands i (av .Command)).c4):Int)>12)) c.commands.length with
 |none=>
  have:=pD hf j af
  rw[List.getD_eq_getElem?_getD,List.getElem?_eq_getElem af]at this
  have:=of_decide_eq_false this
  simp only[Option.getD_some]at this;omega
 |some i=>rw[hf]at hw;cases hw
theorem FV{c:aA}{k:Nat}(h:qD c (k:Int)=0)(aj:k<c.commands.length):
 (((c.commands.getD k (av .Command)).param.kind=0∧tE (c.commands.getD k (av .Command)).param=true)∨gH (c.commands.getD k (av .Command)).param=0)∧∀i,i<(c.commands.getD k (av .Command)).c4.length→kD c (c.commands.getD k (av .Command)).param ((c.commands.getD k (av .Command)).c4.getD i (av .bV))=0:=by
 unfold qD at h
 simp only[toNat_cast]at h
 generalize c.commands.getD k (av .Command)=d at h⊢
 obtain⟨_,h⟩:=hR (by decide) h
 rw[rY,List.length_take,Nat.min_eq_left (Nat.le_of_lt aj)]at h
 obtain⟨_,h⟩:=(tG (e:=fun i=>bif cO .eql (((c.commands.take k).getD i (av .Command)).name) d.name then 9 else 0) fun i hi=>by
  cases cO .eql (((c.commands.take k).getD i (av .Command)).name) d.name<;>rfl).1 h
 have ir: ∀{x:Int},x=Sum.elim (fun r=>r) (fun _=>0) (bq (fun(i9:Nat) (_:Unit)=>bif(kD c d.param (d.c4.getD i9 (av .bV)) != 0)then(.ret (kD c d.param (d.c4.getD i9 (av .bV))):Step Int Unit)else .bn ()) 0 d.c4.length ())→x=0→∀i,i<d.c4.length→kD c d.param (d.c4.getD i (av .bV))=0:=fun hx aP=>by
  rw[hx]at aP;exact((tG (e:=fun i=>kD c d.param (d.c4.getD i (av .bV))) fun i hi=>rfl).1 aP).1
 cases ak:(d.param.kind==0)with
 |true=>
  rw[ak,cond_true]at h;obtain⟨aa,ae⟩:=hR (by decide) h
  exact⟨.inl ⟨by simpa using ak,by simpa using aa⟩,ir rfl ae⟩
 |false=>
  rw[ak,cond_false]at h;obtain⟨aa,ae⟩:=qF h;exact⟨.inr aa,ir rfl ae⟩
theorem mB.par{c:aA}(h:mB c): ∀d∈c.commands,d.param.enum.length≤64:=fun d hd=>by
 obtain⟨j,af,rfl⟩:=List.mem_iff_getElem.1 hd
 have:=(FV (h.FW j af) af).1
 rw[List.getD_eq_getElem?_getD,List.getElem?_eq_getElem af]at this
 simp only[Option.getD_some]at this
 rcases this with⟨_,ae⟩|ae
 ·unfold tE at ae
  simp only[Bool.and_eq_true,beq_iff_eq]at ae;omega
 ·exact Gr ae
theorem yE{l:List aA}(h:nn l=0): ∀i,i<l.length→mB (l.getD i (av .aA))∧∀j,j<i→(l.getD j (av .aA)).name≠(l.getD i (av .aA)).name:=by
 unfold nn at h
 dsimp only at h
 obtain⟨_,h⟩:=hR (by decide) h
 simp only[toNat_cast]at h
 obtain⟨ba,_⟩:=(tG (e:=fun i=>bif(jc (l.getD i (av .aA)) != 0)then jc (l.getD i (av .aA))else bif(cd (fun j=>decide ((l.getD j (av .aA)).name=(l.getD i (av .aA)).name)) i).isSome then 9 else 0) fun i hi=>by
  rw[rY,List.length_take,Nat.min_eq_left (Nat.le_of_lt hi),BV (fun a:aA=>a.name)]
  cases aS:(jc (l.getD i (av .aA)) != 0)with
  |true=>simp only[cond_true,aS]
  |false=>
   simp only[cond_false]
   cases (cd (fun j=>decide ((l.getD j (av .aA)).name=(l.getD i (av .aA)).name)) i).isSome<;>rfl).1 h
 intro i hi
 obtain⟨aa,ae⟩:=qF (ba i hi)
 exact⟨x9 aa,fun j af=>of_decide_eq_false (GA (hR (by decide) ae).1 j af)⟩
end Go.aO
namespace Go.aO
open Go Go.eK
def BW(l:List aA):Prop:=∀i,i<l.length→∀j,j<i→(l.getD j (av .aA)).name≠(l.getD i (av .aA)).name
theorem BX{l:List aA}(h:nn l=0):BW l:=fun i hi=>(yE h i hi).2
theorem Yr{l:List aA}{x:ByteArray}:(hT (l.map fun c=>(c.name,c)) x=none∧∀c∈l,c.name≠x)∨∃(j:Nat) (c:aA),hT (l.map fun c=>(c.name,c)) x=some c∧l[j]? =some c∧c.name=x∧∀(i:Nat) (d:aA),i<j→l[i]? =some d→d.name≠x:=by
 induction l with
 |nil=>exact .inl ⟨rfl,by simp⟩
 |cons e r a7=>
  by_cases he:e.name=x
  ·exact .inr ⟨0,e,by simp[hT,he],rfl,he,fun i d hi=>absurd hi (by omega)⟩
  ·rcases a7 with⟨aa,ae⟩|⟨j,c,aa,ae,au,aW⟩
   ·exact .inl ⟨by simpa[hT,he]using aa,fun c hc=>by rcases List.mem_cons.1 hc with rfl|hc;exact he;exact ae c hc⟩
   ·refine .inr ⟨j+1,c,by simpa[hT,he]using aa,by simpa using ae,au,fun i d hi hd=>?_⟩
    cases i with
    |zero=>simp at hd;subst hd;exact he
    |succ i=>exact aW i d (by omega) (by simpa using hd)
theorem yF{α:Type}{l:List α}{i:Nat}{a d:α}(h:l[i]? =some a):l.getD i d=a:=by
 rw[List.getD_eq_getElem?_getD,h];rfl
theorem PK{α:Type}{l:List α}{i:Nat}{a:α}(h:l[i]? =some a):i<l.length:=(List.getElem?_eq_some_iff.1 h).1
theorem Ys(l:List aA)(x:ByteArray):hT (l.map fun c=>(c.name,c)) x=(cd (fun i=>decide ((l.getD i (av .aA)).name=x)) l.length).map fun i=>l.getD i (av .aA):=by
 rcases Yr (l:=l) (x:=x)with⟨aa,ae⟩|⟨j,c,aa,ae,au,aW⟩
 ·rw[aa,tl fun j af=>decide_eq_false (ae _ (BN af))]
  rfl
 ·rw[aa,yv (PK ae) (by rw[yF ae];exact decide_eq_true au) fun i hi=>by
   have ar:i<l.length:=Nat.lt_trans hi (PK ae)
   have:=aW i _ hi (List.getElem?_eq_getElem ar)
   rw[yF (List.getElem?_eq_getElem ar)]
   exact decide_eq_false this]
  show some c=some (l.getD j (av .aA));rw[yF ae]
theorem Yt{l:List aA}{c:aA}(h: ∀d∈l,d.name≠c.name):jd (l.map fun c=>(c.name,c)) c.name c=(l++[c]).map fun c=>(c.name,c):=by
 induction l with
 |nil=>rfl
 |cons e r a7=>
  have he:e.name≠c.name:=h e (by simp)
  simp only[List.map_cons,List.cons_append,jd,if_neg he,a7 fun d hd=>h d (by simp[hd])]
theorem PL{R A:Type}{b:Nat→A→Step R A}(s:Nat→A){n:Nat}(ad: ∀i,i<n→b i (s i)= .bn (s (i+1))): ∀(m k:Nat),k+m=n→bq b k m (s k)= .inr (s n)
 |0,k,h=>by rw[show k=n by omega];rfl
 |m+1,k,h=>by
  unfold bq;rw[ad k (by omega)]
  exact PL s ad m (k+1) (by omega)
theorem Yu{h:Home}(hd:BW h.bB):kn h=h.bB.map fun c=>(c.name,c):=by
 unfold kn
 dsimp only
 rw[toNat_cast,show([]:List (ByteArray × aA))=(h.bB.take 0).map fun c=>(c.name,c)from rfl,PL (fun k=>(h.bB.take k).map fun c=>(c.name,c)) (n:=h.bB.length) (fun i hi=>?_) _ 0 (by omega)]
 ·show(h.bB.take h.bB.length).map _=_
  rw[List.take_length]
 ·rw[toNat_cast]
  show Step.bn (jd ((h.bB.take i).map fun c=>(c.name,c)) (h.bB.getD i (av .aA)).name (h.bB.getD i (av .aA)))=_;rw[Yt fun d hm=>?_]
  ·rw[List.take_succ_eq_append_getElem hi,yF (List.getElem?_eq_getElem hi)]
  ·obtain⟨j,af,Yv⟩:=Xh.1 hm
   have:=hd i hi j af
   rw[yF Yv]at this;exact this
theorem look_eq{h:Home}(hd:BW h.bB)(x:ByteArray):jE .str (kn h) x=(cd (fun i=>decide ((h.bB.getD i (av .aA)).name=x)) h.bB.length).map fun i=>h.bB.getD i (av .aA):=by
 rw[Yu hd]
 exact Ys _ _
theorem vJ(h:Home)(x:ByteArray):lf h x=match cd (fun i=>decide ((h.bB.getD i (av .aA)).name=x)) h.bB.length with|some i=>(i:Int)|none=> -1:=by
 unfold lf
 dsimp only
 rw[toNat_cast,hq (p:=fun i=>decide ((h.bB.getD i (av .aA)).name=x)) (F:=fun i=>(i:Int)) (fun i u=>by simp only[nk,toNat_cast])]
 all_goals cases cd (fun i=>decide ((h.bB.getD i (av .aA)).name=x)) h.bB.length<;>rfl
theorem Yw{h:Home}(hd:BW h.bB)(d:bx):qG h d=r0 d (kn h):=by
 unfold qG r0
 dsimp only
 refine congrArg (cond _ 3) ?_
 refine el (fun i a _=>?_) fun _=>rfl
 rw[look_eq hd,vJ,Gw]
 unfold pE
 rw[toNat_cast]
 cases hf:cd (fun j=>decide ((h.bB.getD j (av .aA)).name=d.bB.getD i (av .str))) h.bB.length with
 |none=>rfl
 |some j=>
  dsimp only;rw[decide_eq_false (show ¬(j:Int)<0 by omega),toNat_cast]
  rfl
theorem Yx{q:Nat→Bool}{n:Nat}:(cd q (n+1)).isSome=((cd q n).isSome||q n):=by
 cases h:cd q n with
 |some i=>
  obtain⟨aa,ae,au⟩:=hA h;rw[yv (by omega) ae au]
  rfl
 |none=>
  have h:=pD h
  cases aN:q n with
  |true=>rw[yv (Nat.lt_succ_self n) aN h];rfl
  |false=>
   rw[tl fun j af=>?_]
   ·rfl
   ·by_cases mC:j=n
    ·rw[mC];exact aN
    ·exact h j (by omega)
theorem Yy{K V:Type}[DecidableEq K](l:List (K × V))(k x:K)(v:V):hT (jd l k v) x=if k=x then some v else hT l x:=by
 induction l with
 |nil=>simp[jd,hT]
 |cons p r a7=>
  obtain⟨q,w⟩:=p
  by_cases aN:q=k
  ·subst aN
   by_cases hx:q=x<;>simp[jd,hT,hx]
  ·by_cases hx:q=x
   ·subst hx
    simp[jd,hT,aN,Ne.symm aN]
   ·simp only[jd,if_neg aN,hT,if_neg hx,a7]
theorem PM{R A:Type}{b:Nat→A→Step R A}{c:Nat→Unit→Step R Unit}{n:Nat}(I:Nat→A→Prop)
 (h: ∀k a,k<n→I k a→(∃r,b k a= .ret r∧c k ()= .ret r)∨(∃bf,b k a= .bn bf∧c k ()= .bn ()∧I (k+1) bf)):
 ∀(m k:Nat) (a:A),k+m=n→I k a→(∃r,bq b k m a= .inl r∧bq c k m ()= .inl r)∨(∃bf,bq b k m a= .inr bf∧bq c k m ()= .inr ())
 |0,k,a,_,_=>.inr ⟨a,rfl,rfl⟩
 |m+1,k,a,aj,ba=>by
  rcases h k a (by omega) ba with⟨r,aa,ae⟩|⟨bf,aa,ae,au⟩
  ·exact .inl ⟨r,by simp only[bq,aa],by simp only[bq,ae]⟩
  ·have:=PM I h m (k+1) bf (by omega) au
   simpa only[bq,aa,ae]using this
theorem Yz(d:bx):vK d= !((((((decide (d.id<1))||(decide (d.id>250)))||(decide (d.og<0)))||(decide (d.og>255)))||((!d.oh)&&(d.kG != 0)))||(d.oh&&((decide (d.kG<4))||(decide (d.kG>3600))))):=by
 unfold vK
 rw[Bool.eq_iff_iff]
 cases d.oh<;>simp only[cond_eq_ite]<;>split<;>simp_all<;>omega
theorem BY(h:Home):pF h=fj h:=by
 unfold pF fj
 rw[PJ]
 dsimp only
 cases aa:(nn h.bB != 0)with
 |true=>rfl
 |false=>
  have hd:=BX (ih aa)
  simp only[cond_false];refine congrArg (cond _ 3) ?_
  rw[toNat_cast]
  have key:=PM (n:=h.bs.length) (fun k a=>∀x:Int,(hT a x).getD false=(cd (fun j=>decide ((h.bs.getD j (av .bx)).gW=x)) k).isSome) (b:=fun(i8:Nat) (aY:(List (Int × Bool)))=>
   bif(!(vK (h.bs.getD i8 (av .bx))))then Step.ret (2:Int)else bif((decide ((i8:Int)>0))&&(decide ((h.bs.getD i8 (av .bx)).id≤((List.getD h.bs (Int.toNat (IntKind.wrap .i64 ((i8:Int)-(1:Int)))) (av .bx)).id))))then .ret 14
   else bif((jE (.int .u64) aY (h.bs.getD i8 (av .bx)).gW).getD false)then .ret 9 else bif(!(iq (h.bs.getD i8 (av .bx)).room))then .ret 10 else bif(r0 (h.bs.getD i8 (av .bx)) (kn h) != 0)then .ret (r0 (h.bs.getD i8 (av .bx)) (kn h))else .bn (r1 (.int .u64) aY (h.bs.getD i8 (av .bx)).gW true))
   (c:=fun(i5:Nat) (_:Unit)=>bif(pG h (i5:Int) != 0)then .ret (pG h (i5:Int))else .bn ()) ?_ h.bs.length 0 ([]:List (Int × Bool)) (by omega) (fun x=>rfl)
  ·rcases key with⟨r,cf,a2⟩|⟨bf,cf,a2⟩
   ·simp only[toNat_cast]
    rw[cf,a2];rfl
   ·simp only[toNat_cast]
    rw[cf,a2];rfl
  ·intro k a aj b2
   unfold pG;dsimp only;rw[toNat_cast];generalize YA:h.bs.getD k (av .bx)=d;rw[Yz,Bool.not_not,vC,vB,Yw hd];generalize ((((((decide (d.id<1))||(decide (d.id>250)))||(decide (d.og<0)))||(decide (d.og>255)))||((!d.oh)&&(d.kG != 0)))||(d.oh&&((decide (d.kG<4))||(decide (d.kG>3600)))))=A
   have h4:decide ((List.getD h.bs (Int.toNat (IntKind.wrap .i64 ((k:Int)-(1:Int)))) (av .bx)).id≥d.id)=decide (d.id≤(List.getD h.bs (Int.toNat (IntKind.wrap .i64 ((k:Int)-(1:Int)))) (av .bx)).id):=rfl
   rw[h4];generalize (decide ((k:Int)>0)&&decide (d.id≤(List.getD h.bs (Int.toNat (IntKind.wrap .i64 ((k:Int)-(1:Int)))) (av .bx)).id))=O
   have ir:(jE (.int .u64) a d.gW).getD false=(cd (fun j=>decide ((h.bs.getD j (av .bx)).gW=d.gW)) k).isSome:=b2 d.gW
   rw[ir,hq (p:=fun j=>decide ((h.bs.getD j (av .bx)).gW=d.gW)) (F:=fun _=>(9:Int)) (fun i u=>by simp only[toNat_cast]<;>rfl)]
   have step: ∀x:Int,(hT (jd (K:=Int) a d.gW true) x).getD false=(cd (fun j=>decide ((h.bs.getD j (av .bx)).gW=x)) (k+1)).isSome:=fun x=>by
    rw[Yy,Yx,YA]
    by_cases hx:d.gW=x
    ·rw[if_pos hx,decide_eq_true hx,Bool.or_true]
     rfl
    ·rw[if_neg hx,decide_eq_false hx,Bool.or_false]
     exact b2 x
   cases A with
   |true=>exact .inl ⟨2,rfl,rfl⟩
   |false=>
    cases O with
    |true=>exact .inl ⟨14,rfl,rfl⟩
    |false=>
     cases cd (fun j=>decide ((h.bs.getD j (av .bx)).gW=d.gW)) k with
     |some j=>exact .inl ⟨9,rfl,rfl⟩
     |none=>
      cases valid d.room with
      |false=>exact .inl ⟨10,rfl,rfl⟩
      |true=>
       cases aS:(r0 d (kn h) != 0)with
       |true=>exact .inl ⟨_,rfl,by simp only[Bool.not_true,cond_false,cond_true,aS]⟩
       |false=>exact .inr ⟨_,rfl,by simp only[Bool.not_true,cond_false,aS],step⟩
end Go.aO
namespace Go.aO
open Go Go.eK
theorem tH{h:Home}(aP:fj h=0):nn h.bB=0:=by
 unfold fj at aP
 exact(qF aP).1
theorem YB{h:Home}(aP:fj h=0)(x:ByteArray): ∀a∈((jE .str (kn h) x).getD (av .aA)).attrs,a.enum.length≤64:=by
 rw[look_eq (BX (tH aP))]
 cases hf:cd (fun i=>decide ((h.bB.getD i (av .aA)).name=x)) h.bB.length with
 |none=>exact fun a ba=>by cases ba
 |some i=>exact(yE (tH aP) i (hA hf).1).1.enum
theorem BZ(h:Home)(x:Int):lW h x=bif(fj h != 0)then(⟨0,0,0,false,0,⟨#[]⟩,[]⟩,false)else match cd (fun i=>(h.bs.getD i (av .bx)).id==x) h.bs.length with|some i=>(h.bs.getD i (av .bx),true)|none=>(⟨0,0,0,false,0,⟨#[]⟩,[]⟩,false):=by
 unfold lW
 dsimp only
 rw[toNat_cast,hq (p:=fun i=>(h.bs.getD i (av .bx)).id==x) (F:=fun i=>(h.bs.getD i (av .bx),true)) (fun i u=>by simp only[toNat_cast])]
 all_goals refine congrArg (cond _ _) ?_
 all_goals cases cd (fun i=>(h.bs.getD i (av .bx)).id==x) h.bs.length<;>rfl
theorem YC{h:Home}{x:Int}(ae:(lW h x).2=true):fj h=0:=by
 rw[BZ]at ae
 cases aS:(fj h != 0)with
 |true=>rw[aS]at ae;cases ae
 |false=>exact ih aS
theorem PN(h:Home)(k:cB):B0 h k:=by
 have key: ∀v6:Int,(((!(lW h k.dev).2)||(decide (v6<0)))=false→yr ((jE .str (kn h) k.cG).getD (av .aA)) k.attr):=fun v6 ax=>by
  simp only[Bool.or_eq_false_iff,Bool.not_eq_false']at ax;exact PC (YB (YC ax.1) _)
 exact⟨Gu _ _,fun _=>key _,fun _=>key _⟩
theorem YD(h:Home)(q:aT):B1 h q:=by
 unfold B1
 repeat' (first|exact PN _ _|exact yb _ _|intro _|refine And.intro ?_ ?_)
theorem O1(h:Home)(x:Int)(n:ByteArray):B2 h x n:=by
 refine⟨fun _ _=>True,trivial,fun i _ hi _=>⟨fun _=>⟨fun _=>?_,fun _=>trivial⟩,fun _=>⟨fun _=>?_,fun _=>trivial⟩⟩,fun _ _=>?_⟩
 all_goals
  exact fun _=>⟨fun _ _=>True,trivial,fun i _ hi _=>⟨fun _ _=>⟨by omega,by rw[toNat_cast]at hi;omega⟩,fun _=>trivial⟩,fun _ _ h=>absurd (of_decide_eq_false h) (by decide)⟩
theorem OW{c:aA}(hc:mB c)(x:ByteArray):B3 c x:=by
 refine⟨fun _ _=>True,trivial,fun i _ hi _=>⟨fun _=>?_,fun _=>trivial⟩⟩
 rw[toNat_cast]at hi
 have hm:=BN (d:=av .Command) hi
 rw[toNat_cast]
 exact⟨Gn (by have:=hc.par _ hm;omega),X6 (by have:=hc.Yq _ hm;omega)⟩
noncomputable def r2(h:Home)(x:Int)(n:ByteArray):Nat→Bool:=fun i=>((h.bs.getD i (av .bx)).id==x)&&iK (h.bs.getD i (av .bx)).bB n
theorem PO(h:Home)(x:Int)(n:ByteArray):lP h x n=bif(cd (r2 h x n) h.bs.length).isSome then(match cd (fun i=>decide ((h.bB.getD i (av .aA)).name=n)) h.bB.length with|some i=>(h.bB.getD i (av .aA),true)|none=>(⟨⟨#[]⟩,[],[],[]⟩,false))else(⟨⟨#[]⟩,[],[],[]⟩,false):=by
  unfold lP;dsimp only;rw[toNat_cast,toNat_cast]
  have kH: ∀v3:Int,0≤v3→(bif !(decide (v3≥0))then((⟨⟨#[]⟩,[],[],[]⟩:aA),false)else Sum.elim (fun r=>r) (fun _=>bif decide ((-1:Int)<0)then(⟨⟨#[]⟩,[],[],[]⟩,false)else(h.bB.getD (Int.toNat (-1)) (av .aA),true))
      (bq (fun(i7:Nat) (_:Unit)=>bif(cO .eql ((List.getD h.bB (Int.toNat (i7:Int)) (av .aA)).name) n)then(.ret (bif decide ((i7:Int)<0)then(⟨⟨#[]⟩,[],[],[]⟩,false)else(h.bB.getD (Int.toNat (i7:Int)) (av .aA),true)):Step (aA × Bool) Unit)else .bn ()) 0 h.bB.length ()))=(match cd (fun i=>decide ((h.bB.getD i (av .aA)).name=n)) h.bB.length with|some i=>(h.bB.getD i (av .aA),true)|none=>(⟨⟨#[]⟩,[],[],[]⟩,false)):=fun v3 au=>by
    rw[decide_eq_true au,hq (p:=fun i=>decide ((h.bB.getD i (av .aA)).name=n)) (F:=fun i=>(h.bB.getD i (av .aA),true)) (fun i u=>by
      simp only[nk,toNat_cast]
      rw[decide_eq_false (show ¬(i:Int)<0 by omega),cond_false])]
    cases cd (fun i=>decide ((h.bB.getD i (av .aA)).name=n)) h.bB.length<;>rfl
  rw[hq (p:=r2 h x n) (F:=fun _=>(match cd (fun i=>decide ((h.bB.getD i (av .aA)).name=n)) h.bB.length with|some i=>(h.bB.getD i (av .aA),true)|none=>(⟨⟨#[]⟩,[],[],[]⟩,false))) (fun i u=>by
    unfold r2;simp only[toNat_cast]
    cases (h.bs.getD i (av .bx)).id==x with
    |false=>rfl
    |true=>
      simp only[cond_true,Bool.true_and]
      cases iK (h.bs.getD i (av .bx)).bB n with
      |false=>rfl
      |true=>
        simp only[cond_true]
        have:=kH (i:Int) (by omega)
        simp only[toNat_cast]at this
        rw[this])]
  cases cd (r2 h x n) h.bs.length<;>rfl
theorem YE{h:Home}{x:Int}{n:ByteArray}(aP:fj h=0)(ae:(lP h x n).2=true):mB (lP h x n).1:=by
 rw[PO]at ae⊢
 cases aa:(cd (r2 h x n) h.bs.length).isSome with
 |false=>rw[aa]at ae;cases ae
 |true=>
  rw[aa]at ae;simp only[cond_true]at ae⊢
  cases hf:cd (fun i=>decide ((h.bB.getD i (av .aA)).name=n)) h.bB.length with
  |none=>rw[hf]at ae;cases ae
  |some i=>exact(yE (tH aP) i (hA hf).1).1
theorem YF{h:Home}(aP:fj h=0)(q:aT):GB h q:=by
 refine⟨O1 _ _ _,fun ae=>⟨OW (YE aP ?_) _,fun _ _=>yb _ _⟩⟩
 cases au:(lP h q.key.dev q.key.cG).2 with
 |true=>rfl
 |false=>rw[au]at ae;cases ae
theorem PQ{h:Home}(aP:fj h=0)(q:aT):B4 h q:=by
 unfold B4
 repeat' (first|exact YD _ _|exact YF aP _|exact qB _|intro _|refine And.intro ?_ ?_)
theorem O3(h:Home)(q:aT):B5 h q:=by
 refine⟨Gt h,fun aP _ _=>⟨fun _ _=>PQ (ih aP) q,fun _ _=>PQ (ih aP) q⟩⟩
end Go.aO
