/- Numbers, texts, values, readers: the spec functions. Conditions: none. -/
import Derived.Test.YtmkpmgfieagphaaGreatDoorQTEk
import Derived.Laws.RangeString
import Derived.Laws.RangeAny
import Derived.Laws.BitsAllLaws
import Derived.Laws.DeepNot64
import Derived.Test.YtmkpmgfieagphaaGreatDoorQPm
namespace Go.aK
open Go Go.aK Go.eO
def s5(s:ByteArray)(u2:Nat)(AS:Int):Step (Int × Int × Int) (Int):=
 match AS with
 |(EP)=>(match(s.data.toList)[u2]? with|some xJ=>(bif((decide ((u2:Int)>0)&&((xJ.toNat:Int)==0))||(((u2:Int)==9)&&decide ((xJ.toNat:Int)>1)))then .ret (0,0,4)else(bif decide ((xJ.toNat:Int)<128)then .ret (m5 .u64 EP (IntKind.u64.wrap ((IntKind.u64.wrap (nX .u8 (xJ.toNat:Int) 127))*2^(min (IntKind.i64.wrap (7*(u2:Int))).toNat 64))),((u2+1:Nat):Int),0)else .bq (m5 .u64 EP (IntKind.u64.wrap ((IntKind.u64.wrap (nX .u8 (xJ.toNat:Int) 127))*2^(min (IntKind.i64.wrap (7*(u2:Int))).toNat 64))))))|none=>.bq AS)
def ER(s:ByteArray)(AS:Int):(Int × Int × Int)⊕(Int):=bo (s5 s) 0 s.size AS
def k8(s:ByteArray):Int × Int × Int:=
 (match(ER s (0))with| .inl Wj=>Wj| .inr (EP)=>(0,0,5))
def nY(r:Rd):(Int):=
 (bif !r.made then 15 else r.err)
def eJ(r:Rd):(Int × Rd):=
 (bif((nY r) != 0)then(0,r)else(bif((((k8 r.rest).2).2) != 0)then(0,(⟨r.rest,(((k8 r.rest).2).2),r.made⟩:Rd))else(nZ .i64 (IntKind.i64.wrap (((k8 r.rest).1).fdiv 2)) (IntKind.i64.wrap (0-IntKind.i64.wrap (nX .u64 ((k8 r.rest).1) 1))),(⟨r.rest.extract ((((k8 r.rest).2).1).toNat) r.rest.size,r.err,r.made⟩:Rd))))
def ic(r:Rd)(n:Int):(Int × Rd):=
 (bif((nY ((eJ r).2)) != 0)then(0,((eJ r).2))else(bif decide ((eJ r).1<0)then(0,(⟨((eJ r).2).rest,4,((eJ r).2).made⟩:Rd))else(bif decide ((eJ r).1>(if 0>n then 0 else n))then(0,(⟨((eJ r).2).rest,3,((eJ r).2).made⟩:Rd))else((eJ r).1,((eJ r).2)))))
def pk(r:Rd)(n:Int):(ByteArray × Rd):=
 (bif((nY ((ic r n).2)) != 0)then(⟨#[]⟩,((ic r n).2))else(bif decide ((ic r n).1>(((((ic r n).2).rest).size:Nat):Int))then(⟨#[]⟩,(⟨((ic r n).2).rest,5,((ic r n).2).made⟩:Rd))else((((ic r n).2).rest).extract 0 (((ic r n).1).toNat),(⟨(((ic r n).2).rest).extract (((ic r n).1).toNat) (((ic r n).2).rest).size,((ic r n).2).err,((ic r n).2).made⟩:Rd))))
def xK(r:Rd)(e:Int):(Rd):=
 (bif((nY r)==0)then(⟨r.rest,e,r.made⟩:Rd)else r)
def xL(n:Int):Bool:=
 (decide (n≥ -1099511627776)&&decide (n≤1099511627776))
def n1(v:cY):Int:=
 (bif(((v.kind==0)||(v.kind==4))||((v.kind==1)||((v.kind==2)||(v.kind==3))))then(bif !(bif((v.kind==0)||(v.kind==4))then(v.n==0)else(bif(v.kind==1)then((v.n==0)||(v.n==1))else(bif(v.kind==2)then xL v.n else(decide (v.n≥0)&&decide (v.n≤63)))))then 2 else(bif decide ((v.s.size:Int)>60)then 3 else(bif(!dI v.s (⟨#[]⟩)&&(v.kind != 4))then 4 else 0)))else 7)
def AT(v:cY):Int:=
 (bif(((v.kind==0)||(v.kind==4))||((v.kind==1)||((v.kind==2)||(v.kind==3))))then(bif(decide (v.n<(bif(((v.kind==0)||(v.kind==4))||((v.kind==1)|| !(v.kind==2)))then 0 else -1099511627776))||decide (v.n>(bif((v.kind==0)||(v.kind==4))then 0 else(bif(v.kind==1)then 1 else(bif(v.kind==2)then 1099511627776 else 63)))))then 2 else(bif decide ((v.s.size:Int)>60)then 3 else(bif(!dI v.s (⟨#[]⟩)&&(v.kind != 4))then 4 else 0)))else 7)
def ES(r:Rd):cY:=(bif(((eJ r).1==1)||(((eJ r).1==2)||((eJ r).1==3)))then(⟨(eJ r).1,(eJ ((eJ r).2)).1,⟨#[]⟩⟩:cY)else(bif((eJ r).1==4)then(⟨(eJ r).1,0,(pk ((eJ r).2) 60).1⟩:cY)else(⟨(eJ r).1,0,⟨#[]⟩⟩:cY)))
def xM(r:Rd):Rd:=(bif(((eJ r).1==1)||(((eJ r).1==2)||((eJ r).1==3)))then((eJ ((eJ r).2)).2)else(bif((eJ r).1==4)then((pk ((eJ r).2) 60).2)else((eJ r).2)))
def u3(r:Rd):Rd:=(bif(n1 (ES r) != 0)then(xK (xM r) 4)else(xM r))
def u4(r:Rd):(cY × Rd):=
 (bif((nY (u3 r)) != 0)then((⟨0,0,⟨#[]⟩⟩:cY),(u3 r))else((ES r),(u3 r)))
def Wk(s:ByteArray):Rd:=(⟨s,0,true⟩:Rd)
open Classical in
theorem Wl{a:Int}(h:(a != 0)=false):a=0:=by simpa using h
theorem Nt{α:Type}{l:List α}{k:Nat}{x:α}:x∈l.take k↔∃i,i<k∧l[i]? =some x:=by
 rw[List.mem_iff_getElem?]
 constructor
 ·rintro⟨i,hi⟩
  rw[List.getElem?_take]at hi
  split at hi
  ·rename_i h;exact⟨i,h,hi⟩
  ·cases hi
 ·rintro⟨i,h,hi⟩
  exact⟨i,by rw[List.getElem?_take,if_pos h];exact hi⟩
theorem Wm{α:Type}{p q:Prop}[Decidable p][Decidable q]{a b:α}(h:p↔q):(if p then a else b)=if q then a else b:=by
 by_cases ak:p
 ·rw[if_pos ak,if_pos (h.1 ak)]
 ·rw[if_neg ak,if_neg fun aJ=>ak (h.2 aJ)]
theorem NF{α:Type}{p q:Prop}[Decidable p][Decidable q]{a b:α}(h:p↔¬q):(if p then a else b)=if q then b else a:=by
 by_cases aJ:q
 ·rw[if_pos aJ,if_neg fun ak=>h.1 ak aJ]
 ·rw[if_neg aJ,if_pos (h.2 aJ)]
theorem Wn(v:cY):n1 v=AT v:=by
 unfold n1 AT xL
 simp only[cond_eq_ite]
 by_cases aP:v.kind=0
 ·simp[aP]
  apply NF;omega
 by_cases aQ:v.kind=4
 ·simp[aQ]
  apply NF;omega
 by_cases aa:v.kind=1
 ·simp[aa]
  apply Wm;omega
 by_cases ae:v.kind=2
 ·simp[ae]
 by_cases av:v.kind=3
 ·simp[av]
 ·simp[aP,aa,ae,av,aQ]
end Go.aK
namespace Go.aK
open Go Go.aK Go.eO
def kB:Nat→Nat→List Nat
 |0,u=>[u]
 |f+1,u=>if u<128 then[u]else(u%128+128)::kB f (u/ 128)
def gT(n:Int):Nat:=if 0≤n then(2*n).toNat else(-2*n-1).toNat
def ie(n:Int):Prop:= -9223372036854775808≤n∧n<9223372036854775808
theorem qp{n:Int}(h:ie n):gT n<18446744073709551616:=by
 unfold ie at h
 unfold gT
 split<;>omega
theorem n2(n:Int):IntKind.u64.wrap n=n%18446744073709551616:=by simp[IntKind.wrap,IntKind.bits,IntKind.signed]
theorem ET(a b:Nat)(a6:a<18446744073709551616)(ad:b<18446744073709551616):nZ .u64 (a:Int) (b:Int)=((a ^^^ b:Nat):Int):=u64_xor_nat a b a6 ad
theorem Wo(a b:Nat)(a6:a<18446744073709551616)(ad:b<18446744073709551616):m5 .u64 (a:Int) (b:Int)=((a ||| b:Nat):Int):=u64_or_nat a b a6 ad
theorem Wp(a b:Nat)(a6:a<256)(ad:b<256):m5 .u8 (a:Int) (b:Int)=((a ||| b:Nat):Int):=u8_or_nat a b a6 ad
theorem Wq(a b:Nat)(a6:a<256)(ad:b<256):nX .u8 (a:Int) (b:Int)=((a &&& b:Nat):Int):=u8_and_nat a b a6 ad
theorem NG(a:Nat)(a6:a<18446744073709551616):a ^^^ 18446744073709551615=18446744073709551615-a:=by
 have h:(BitVec.ofNat 64 a ^^^ BitVec.allOnes 64)= ~~~(BitVec.ofNat 64 a):=by rw[BitVec.xor_allOnes]
 have ae:=congrArg BitVec.toNat h
 rw[BitVec.toNat_not,BitVec.toNat_xor,BitVec.toNat_ofNat,BitVec.toNat_allOnes,Nat.mod_eq_of_lt a6]at ae
 exact ae
theorem Wr{n:Int}(h:ie n):nZ .u64 (IntKind.u64.wrap (IntKind.u64.wrap n*2)) (IntKind.u64.wrap (n.fdiv 9223372036854775808))=((gT n:Nat):Int):=by
 obtain⟨aa,ae⟩:=h
 rw[n2,n2,n2,Int.fdiv_eq_ediv_of_nonneg _ (by decide)]
 by_cases hn:0≤n
 ·have aA:n%18446744073709551616*2%18446744073709551616=((gT n:Nat):Int):=by unfold gT;rw[if_pos hn];omega
  have bh:n/ 9223372036854775808%18446744073709551616=((0:Nat):Int):=by omega
  rw[aA,bh,ET _ _ (qp ⟨aa,ae⟩) (by decide),Nat.xor_zero]
 ·have aA:n%18446744073709551616*2%18446744073709551616=((18446744073709551615-gT n:Nat):Int):=by unfold gT;rw[if_neg hn];omega
  have bh:n/ 9223372036854775808%18446744073709551616=((18446744073709551615:Nat):Int):=by omega
  have aV:=qp ⟨aa,ae⟩
  rw[aA,bh,ET _ _ (by omega) (by decide),NG _ (by omega)]
  omega
theorem NH{n:Int}(h:ie n):(bif decide (n<0)then nZ .u64 18446744073709551615 (IntKind.u64.wrap (IntKind.u64.wrap n*2))else IntKind.u64.wrap (IntKind.u64.wrap n*2))=((gT n:Nat):Int):=by
 obtain⟨aa,ae⟩:=h
 rw[n2,n2]
 by_cases hn:0≤n
 ·have iQ:decide (n<0)=false:=decide_eq_false (by omega)
  rw[iQ];show n%18446744073709551616*2%18446744073709551616=((gT n:Nat):Int);unfold gT;rw[if_pos hn];omega
 ·have iQ:decide (n<0)=true:=decide_eq_true (by omega)
  have aA:n%18446744073709551616*2%18446744073709551616=((18446744073709551615-gT n:Nat):Int):=by unfold gT;rw[if_neg hn];omega
  have aV:=qp ⟨aa,ae⟩
  rw[iQ,cond_true,aA,show(18446744073709551615:Int)=((18446744073709551615:Nat):Int)from rfl,ET _ _ (by decide) (by omega),Nat.xor_comm,NG _ (by omega)]
  omega
theorem Ws: ∀a,a<256→a ||| 128=a%128+128:=by decide+kernel
theorem Wt(u:Nat):m5 .u8 (IntKind.u8.wrap (u:Int)) 128=((u%128+128:Nat):Int):=by
 have e:IntKind.u8.wrap (u:Int)=((u%256:Nat):Int):=by rw[IntKind.wrap_u8'];omega
 rw[e,show(128:Int)=((128:Nat):Int)from rfl,Wp _ _ (by omega) (by decide),Ws _ (by omega)]
 omega
theorem Wu(u:Nat):IntKind.u8.wrap (IntKind.u8.wrap ((u:Int).tmod 128)+128)=((u%128+128:Nat):Int):=by
 rw[Int.tmod_eq_emod_of_nonneg (by omega),IntKind.wrap_u8',IntKind.wrap_u8']
 omega
theorem NI{R A:Type}{b:A→Step R A}{f:Nat}{x y:A}(h:b x= .cK y):c5 b (f+1) x= .inr y:=by
 unfold c5
 rw[h]
theorem NJ{R A:Type}{b:A→Step R A}{f:Nat}{x y:A}(h:b x= .bq y):c5 b (f+1) x=c5 b f y:=by
 conv=>lhs;unfold c5
 rw[h]
def lJ(u:Nat):ByteArray:=bytesOf ((kB 9 u).map fun b:Nat=>(b:Int))
theorem NK: ∀(l:List Int) (s:ByteArray),(l.foldl (fun r n=>r.push (UInt8.ofNat n.toNat)) s).data.toList=s.data.toList++l.map fun n=>UInt8.ofNat n.toNat
 |[],s=>by simp
 |n::l,s=>by
  rw[List.foldl_cons,NK l,ByteArray.data_push,Array.toList_push,List.map_cons,List.append_assoc,List.singleton_append]
theorem NL(l:List Int):(bytesOf l).data.toList=l.map fun n=>UInt8.ofNat n.toNat:=by
 unfold bytesOf
 rw[NK]
 rfl
theorem s6(l:List Int):(bytesOf l).size=l.length:=by
 have h:=congrArg List.length (NL l)
 rw[List.length_map,Array.length_toList]at h
 exact h
theorem Wv{a b:ByteArray}(h:a.data.toList=b.data.toList):a=b:=ByteArray.ext (Array.toList_inj.1 h)
def xN(l:List Nat):List UInt8:=l.map UInt8.ofNat
theorem Ww(u:Nat):(lJ u).data.toList=xN (kB 9 u):=by
 unfold lJ xN
 rw[NL,List.map_map]
 rfl
theorem Wx(f u:Nat):(kB f u).length≤f+1:=by
 induction f generalizing u with
 |zero=>exact Nat.le_refl _
 |succ f aZ=>
  unfold kB
  split
  ·simp
  ·have:=aZ (u/ 128)
   simp only[List.length_cons];omega
theorem NM(u:Nat):(lJ u).size=(kB 9 u).length:=by
 unfold lJ
 rw[s6,List.length_map]
theorem EU(k:Nat):128^k=2^(7*k):=by rw[Nat.pow_mul]
theorem Wy{k acc c:Nat}(aj:k≤9)(hc:c<256)(a6:acc<128^k)(hd:c%128*128^k<18446744073709551616):
 m5 .u64 (acc:Int) (IntKind.u64.wrap ((IntKind.u64.wrap (nX .u8 (c:Int) 127))*2^(min (IntKind.i64.wrap (7*(k:Int))).toNat 64)))=((acc+c%128*128^k:Nat):Int):=by
 have aA:nX .u8 (c:Int) 127=((c%128:Nat):Int):=by
  rw[show(127:Int)=((127:Nat):Int)from rfl,Wq _ _ hc (by decide),nat_mask7]
 have bh:min (IntKind.i64.wrap (7*(k:Int))).toNat 64=7*k:=by
  rw[rN _ (by omega) (by omega)]
  omega
 have ct:IntKind.u64.wrap ((c%128:Nat):Int)=((c%128:Nat):Int):=by rw[n2];omega
 have e1:(((c%128:Nat):Int)*2^(7*k))=((c%128*128^k:Nat):Int):=by
  rw[EU];push_cast;rfl
 have ak:128^k≤128^9:=Nat.pow_le_pow_right (by decide) aj
 rw[aA,bh,ct,e1,n2]
 have n3:((c%128*128^k:Nat):Int)%18446744073709551616=((c%128*128^k:Nat):Int):=by omega
 rw[n3,Wo _ _ (by(have:(128:Nat)^9=9223372036854775808:=(by decide));omega) hd]
 rw[Nat.or_comm,nat_join (7*k) _ _ (by rw[EU];exact Nat.mul_mod_left _ _) (by rw[←EU];exact a6),Nat.add_comm]
theorem NN(e:UInt8):e.toNat<256:=e.toNat_lt
theorem Wz{s:ByteArray}{k:Nat}{e:UInt8}{acc:Nat}(he:s.data.toList[k]? =some e)(aj:k≤9)(a6:acc<128^k):s5 s k (acc:Int)=
 if(0<k∧e.toNat=0)∨(k=9∧1<e.toNat)then .ret (0,0,4)else if e.toNat<128 then .ret (((acc+e.toNat%128*128^k:Nat):Int),((k+1:Nat):Int),0)else .bq ((acc+e.toNat%128*128^k:Nat):Int):=by
 have hu:=NN e
 unfold s5
 dsimp only
 rw[he]
 dsimp only
 rw[cond_eq_ite]
 by_cases aa:(0<k∧e.toNat=0)∨(k=9∧1<e.toNat)
 ·rw[if_pos aa,if_pos]
  simp only[Bool.or_eq_true,Bool.and_eq_true,decide_eq_true_eq,beq_iff_eq];omega
 ·have hd:e.toNat%128*128^k<18446744073709551616:=by
   rcases Nat.lt_or_ge k 9 with kC|kC
   ·have ak:128^k≤128^8:=Nat.pow_le_pow_right (by decide) (by omega)
    have:e.toNat%128*128^k≤127*128^8:=Nat.mul_le_mul (by omega) ak
    exact Nat.lt_of_le_of_lt this (by decide)
   ·have EV:k=9:=by omega
    subst EV
    have:e.toNat%128*128^9≤1*128^9:=Nat.mul_le_mul (by omega) (Nat.le_refl _)
    exact Nat.lt_of_le_of_lt this (by decide)
  rw[if_neg aa,if_neg (by
   simp only[Bool.or_eq_true,Bool.and_eq_true,decide_eq_true_eq,beq_iff_eq]
   omega),Wy aj hu a6 hd,cond_eq_ite]
  by_cases ae:e.toNat<128
  ·rw[if_pos ae,if_pos (by rw[decide_eq_true_eq];omega)]
  ·rw[if_neg ae,if_neg (by rw[decide_eq_true_eq];omega)]
theorem NO{s:ByteArray}: ∀(m k acc:Nat) (U N:Int),k+m=s.size→acc<128^k→k≤9→bo (s5 s) k m (acc:Int)= .inl (U,N,0)→
 ∃(u:Nat) (t:List UInt8),U=((acc+u*128^k:Nat):Int)∧s.data.toList.drop k=xN (kB (9-k) u)++t∧N=((k+(kB (9-k) u).length:Nat):Int)∧(0<k→0<u)∧acc+u*128^k<18446744073709551616
 |0,k,acc,U,N,_,_,_,h=>by simp[bo]at h
 |m+1,k,acc,U,N,ai,a6,aj,h=>by
  have bI:k<s.data.toList.length:=by
   have:s.data.toList.length=s.size:=rfl
   omega
  obtain⟨e,he⟩: ∃e,s.data.toList[k]? =some e:=⟨_,List.getElem?_eq_getElem bI⟩
  have NP:s.data.toList.drop k=e::s.data.toList.drop (k+1):=by
   rw[List.drop_eq_getElem_cons bI]
   congr 1
   rw[List.getElem?_eq_getElem bI]at he
   exact Option.some.inj he
  have zh1:=NN e
  have WA:128^(k+1)=128*128^k:=by rw[Nat.pow_succ,Nat.mul_comm]
  have zh2:128^k≤128^9:=Nat.pow_le_pow_right (by decide) aj
  have NQ:(128:Nat)^9=9223372036854775808:=by decide
  unfold bo at h;rw[Wz he aj a6]at h
  split at h
  ·rename_i r ag
   split at ag
   ·cases ag;cases h
   ·rename_i aJ
    split at ag
    ·rename_i hc
     cases ag;simp only[Sum.inl.injEq,Prod.mk.injEq]at h;obtain⟨rfl,rfl,_⟩:=h
     have aw:kB (9-k) e.toNat=[e.toNat]:=by
      rcases Nat.lt_or_ge k 9 with kC|kC
      ·obtain⟨f,hf⟩: ∃f,9-k=f+1:=⟨8-k,by omega⟩
       rw[hf];unfold kB;rw[if_pos hc]
      ·rw[show 9-k=0 by omega];rfl
     have s7:acc+e.toNat*128^k<18446744073709551616:=by
      rcases Nat.lt_or_ge k 9 with kC|kC
      ·have ak:128^k≤128^8:=Nat.pow_le_pow_right (by decide) (by omega)
       have ae:e.toNat*128^k≤127*128^8:=Nat.mul_le_mul (by omega) ak
       have EW:127*(128:Nat)^8=9151314442816847872:=by decide
       omega
      ·have EV:k=9:=by omega
       subst EV
       have:e.toNat*128^9≤1*128^9:=Nat.mul_le_mul (by omega) (Nat.le_refl _)
       omega
     refine⟨e.toNat,s.data.toList.drop (k+1),by rw[Nat.mod_eq_of_lt hc],?_,by rw[aw];rfl,fun aP=>by omega,s7⟩
     rw[aw,NP];simp[xN]
    ·cases ag
  ·rename_i a ag
   split at ag
   ·cases ag
   ·split at ag<;>cases ag
  ·rename_i a ag
   split at ag
   ·cases ag
   ·rename_i aJ
    split at ag
    ·cases ag
    ·rename_i hc
     cases ag
     have zh3:k≤8:=by
      rcases Nat.lt_or_ge k 9 with kC|kC
      ·omega
      ·exact absurd (Or.inr ⟨by omega,by omega⟩) aJ
     have EX:acc+e.toNat%128*128^k<128^(k+1):=by
      have:e.toNat%128*128^k≤127*128^k:=Nat.mul_le_mul (by omega) (Nat.le_refl _)
      omega
     obtain⟨u,t,aa,ae,av,aQ,bL⟩:=NO m (k+1) (acc+e.toNat%128*128^k) U N (by omega) EX (by omega) h
     have zh4:=aQ (by omega)
     have xO:acc+e.toNat%128*128^k+u*128^(k+1)=acc+(e.toNat%128+u*128)*128^k:=by
      rw[WA,Nat.add_mul,Nat.add_assoc,Nat.mul_assoc]
     have aw:kB (9-k) (e.toNat%128+u*128)=e.toNat::kB (9-(k+1)) u:=by
      rw[show 9-k=(9-(k+1))+1 by omega]
      conv=>lhs;unfold kB
      rw[if_neg (by omega)]
      congr 1
      ·omega
      ·congr 1
       omega
     refine⟨e.toNat%128+u*128,t,by rw[aa,xO],?_,?_,fun _=>by omega,by rw[←xO];exact bL⟩
     ·rw[aw,NP,ae]
      simp[xN]
     ·rw[aw,av,List.length_cons]
      congr 1
      omega
theorem WB{s:ByteArray}{U N:Int}(h:k8 s=(U,N,0)): ∃(u:Nat) (t:ByteArray),U=(u:Int)∧s=lJ u++t∧N=(((lJ u).size:Nat):Int)∧u<18446744073709551616:=by
 unfold k8 at h
 split at h
 ·rename_i r ag
  subst h;unfold ER at ag;obtain⟨u,t,aa,ae,av,_,bL⟩:=NO s.size 0 0 U N (by omega) (by decide) (by decide) ag
  refine⟨u,⟨t.toArray⟩,by rw[aa];simp,Wv ?_,by rw[av,NM];simp,by omega⟩
  rw[ByteArray.data_append,Array.toList_append,Ww];simpa using ae
 ·simp at h
end Go.aK
namespace Go.aK
open Go Go.aK Go.eO
theorem WC{v:cY}(h:n1 v=0):v.s.size≤60:=by
 unfold n1 at h
 simp only[cond_eq_ite]at h
 repeat' split at h
 all_goals first
  |(cases h;done)
  |(rename_i aJ _;simp at aJ;omega)
  |(rename_i aJ;simp at aJ;omega)
theorem WD{a b:ByteArray}:dI a b=true↔a=b:=by rw[uX];simp
theorem WE{v:cY}(h:n1 v=0):(v.kind=0∧v.n=0∧v.s=⟨#[]⟩)∨((v.kind=1∨v.kind=2∨v.kind=3)∧v.s=⟨#[]⟩∧ -1099511627776≤v.n∧v.n≤1099511627776)∨(v.kind=4∧v.n=0∧v.s.size≤60):=by
 have bQ:=WC h
 unfold n1 at h
 cases c8:(((v.kind==0)||(v.kind==4))||((v.kind==1)||((v.kind==2)||(v.kind==3))))with
 |false=>rw[c8]at h;cases h
 |true=>
  rw[c8]at h
  cases fy:(bif((v.kind==0)||(v.kind==4))then(v.n==0)else(bif(v.kind==1)then((v.n==0)||(v.n==1))else(bif(v.kind==2)then xL v.n else(decide (v.n≥0)&&decide (v.n≤63)))))with
  |false=>rw[fy]at h;cases h
  |true=>
   rw[fy]at h;simp only[cond_true,Bool.not_true,cond_false]at h;simp only[cond_eq_ite]at h
   split at h
   ·cases h
   ·split at h
    ·cases h
    ·rename_i av
     have ai:v.kind≠4→v.s=⟨#[]⟩:=fun aj=>by
      simp only[Bool.and_eq_true,bne_iff_ne,ne_eq,not_and,Decidable.not_not,Bool.not_eq_true']at av
      cases aJ:dI v.s ⟨#[]⟩with
      |true=>exact WD.1 aJ
      |false=>exact absurd (av aJ) aj
     simp only[Bool.or_eq_true,beq_iff_eq]at c8
     rcases c8 with (aP|aQ)|aa|ae|av
     ·exact .inl ⟨aP,by simpa[aP]using fy,ai (by omega)⟩
     ·exact .inr (.inr ⟨aQ,by simpa[aQ]using fy,bQ⟩)
     ·refine .inr (.inl ⟨.inl aa,ai (by omega),?_⟩)
      simp[aa]at fy;omega
     ·refine .inr (.inl ⟨.inr (.inl ae),ai (by omega),?_⟩)
      simp[ae,xL]at fy;omega
     ·refine .inr (.inl ⟨.inr (.inr av),ai (by omega),?_⟩)
      simp[av]at fy;omega
end Go.aK
namespace Go.aK
open Go Go.eO
theorem WG(u:Nat):bu .shr .u64 (u:Int) 7=((u/ 128:Nat):Int):=by
 show(u:Int).fdiv (2^(min (7:Int).toNat 64))=_
 rw[show(2:Int)^(min (7:Int).toNat 64)=128 from rfl,Int.fdiv_eq_ediv_of_nonneg _ (by decide)]
 omega
theorem WH{u:Nat}(h:u<18446744073709551616):bu .quo .u64 (u:Int) 128=((u/ 128:Nat):Int):=by
 show IntKind.u64.wrap ((u:Int).tdiv 128)=_
 rw[Int.tdiv_eq_ediv_of_nonneg (by omega),n2]
 omega
def s8(R:Type)(c:Int × List Int):Step R (Int × List Int):=
 bif decide (c.1≥128)then .bq (bu .shr .u64 c.1 7,List.append c.2 [bu .or .u8 (IntKind.wrap .u8 c.1) 128])else .cK (c.1,c.2)
def s9(R:Type)(c:Int × List Int):Step R (Int × List Int):=
 bif decide (c.1≥128)then .bq (bu .quo .u64 c.1 128,List.append c.2 [IntKind.wrap .u8 (IntKind.wrap .u8 (bu .rem .u64 c.1 128)+128)])else .cK (c.1,c.2)
theorem WI(R:Type){u:Nat}(acc:List Int)(h:u<128):s8 R ((u:Int),acc)= .cK ((u:Int),acc):=by
 unfold s8
 rw[show decide ((u:Int)≥128)=false from decide_eq_false (by omega)]
 rfl
theorem NR(R:Type){u:Nat}(acc:List Int)(h: ¬u<128):s8 R ((u:Int),acc)= .bq (((u/ 128:Nat):Int),acc++[((u%128+128:Nat):Int)]):=by
 unfold s8
 rw[show decide ((u:Int)≥128)=true from decide_eq_true (by omega),cond_true,WG]
 show Step.bq (_,acc++[m5 .u8 (IntKind.u8.wrap (u:Int)) 128])=_
 rw[Wt]
theorem WJ(R:Type){u:Nat}(acc:List Int)(h:u<128):s9 R ((u:Int),acc)= .cK ((u:Int),acc):=by
 unfold s9
 rw[show decide ((u:Int)≥128)=false from decide_eq_false (by omega)]
 rfl
theorem NS(R:Type){u:Nat}(acc:List Int)(h: ¬u<128)(ae:u<18446744073709551616):s9 R ((u:Int),acc)= .bq (((u/ 128:Nat):Int),acc++[((u%128+128:Nat):Int)]):=by
 unfold s9
 rw[show decide ((u:Int)≥128)=true from decide_eq_true (by omega),cond_true,WH ae]
 show Step.bq (_,acc++[IntKind.u8.wrap (IntKind.u8.wrap ((u:Int).tmod 128)+128)])=_
 rw[Wu]
theorem NT{R:Type}{b:Int × List Int→Step R (Int × List Int)}(ar: ∀(u:Nat) acc,u<128→b ((u:Int),acc)= .cK ((u:Int),acc))
 (ah: ∀(u:Nat) acc,¬u<128→u<18446744073709551616→b ((u:Int),acc)= .bq (((u/ 128:Nat):Int),acc++[((u%128+128:Nat):Int)])):
 ∀(f u F:Nat) (acc:List Int),u<128*128^f→u<18446744073709551616→f<F→∃(x:Nat) (l:List Int),c5 b F ((u:Int),acc)= .inr ((x:Int),acc++l)∧(kB f u).map (fun b:Nat=>(b:Int))=l++[(x:Int)]∧x<128
 |f,u,0,acc,h,_,hF=>absurd hF (Nat.not_lt_zero _)
 |f,u,F+1,acc,h,s7,hF=>by
  by_cases hu:u<128
  ·refine⟨u,[],by rw[NI (ar u acc hu),List.append_nil],?_,hu⟩
   cases f with
   |zero=>rfl
   |succ f=>unfold kB;rw[if_pos hu];rfl
  ·cases f with
   |zero=>exact absurd h (by simpa using hu)
   |succ f=>
    have ae:u/ 128<128*128^f:=by
     rw[Nat.pow_succ]at h;omega
    obtain⟨x,l,aA,bh,ct⟩:=NT ar ah f (u/ 128) F (acc++[((u%128+128:Nat):Int)]) ae (by omega) (by omega)
    refine⟨x,((u%128+128:Nat):Int)::l,?_,?_,ct⟩
    ·rw[NJ (ah u acc hu s7),aA,List.append_assoc,List.singleton_append]
    ·unfold kB
     rw[if_neg hu,List.map_cons,bh,List.cons_append]
theorem NU{R:Type}{b:Int × List Int→Step R (Int × List Int)}(ar: ∀(u:Nat) acc,u<128→b ((u:Int),acc)= .cK ((u:Int),acc))
 (ah: ∀(u:Nat) acc,¬u<128→u<18446744073709551616→b ((u:Int),acc)= .bq (((u/ 128:Nat):Int),acc++[((u%128+128:Nat):Int)])){u:Nat}(s7:u<18446744073709551616):
 ∃(x:Nat) (l:List Int),c5 b dT ((u:Int),[])= .inr ((x:Int),l)∧bytesOf (List.append l [IntKind.wrap .u8 (x:Int)])=lJ u:=by
 obtain⟨x,l,aA,bh,ct⟩:=NT ar ah 9 u dT [] (Nat.lt_of_lt_of_le s7 (by decide)) s7 (by decide)
 refine⟨x,l,aA,?_⟩
 unfold lJ
 rw[bh,IntKind.wrap_u8',show(x:Int)%256=(x:Int)by omega]
 rfl
theorem NV{n:Int}(h:ie n):bu .xor .u64 (bu .shl .u64 (IntKind.wrap .u64 n) 1) (IntKind.wrap .u64 (bu .shr .i64 n 63))=((gT n:Nat):Int):=by
 have:bu .shr .i64 n 63=n.fdiv 9223372036854775808:=rfl
 rw[this]
 exact Wr h
theorem AU{n:Int}(h:ie n):fY n=lJ (gT n):=by
 obtain⟨x,l,aA,bh⟩:=NU (R:=ByteArray) (b:=s8 ByteArray) (fun u acc=>WI _ acc) (fun u acc h _=>NR _ acc h) (qp h)
 unfold fY
 rw[NV h]
 show Sum.elim _ _ (c5 (s8 ByteArray) dT (((gT n:Nat):Int),[]))=_
 rw[aA]
 exact bh
theorem EY{n:Int}(h:ie n):jN n=lJ (gT n):=by
 obtain⟨x,l,aA,bh⟩:=NU (R:=ByteArray) (b:=s9 ByteArray) (fun u acc=>WJ _ acc) (fun u acc h ae=>NS _ acc h ae) (qp h)
 have a6:=NH h
 unfold jN
 dsimp only
 have key: ∀v:Int,v=((gT n:Nat):Int)→Sum.elim (fun r=>r) (fun bP:Int × List Int=>bytesOf (List.append bP.2 [IntKind.wrap .u8 bP.1])) (c5 (s9 ByteArray) dT (v,[]))=lJ (gT n):=by
  rintro v rfl
  rw[aA];exact bh
 cases hd:decide (n<0)with
 |true=>
  rw[hd,cond_true]at a6;exact key _ a6
 |false=>
  rw[hd,cond_false]at a6;exact key _ a6
theorem xP{u:Nat}:(lJ u).size≤10:=by rw[NM];exact Wx 9 u
def qq(d:Int × List Int):Prop:=∃(u f:Nat),d.1=(u:Int)∧u<18446744073709551616∧u<128*128^f∧d.2.length+f≤9
theorem NW{u:Nat}(h:u<18446744073709551616):qq ((u:Int),[]):=⟨u,9,rfl,h,Nat.lt_of_lt_of_le h (by decide),Nat.le_refl _⟩
theorem NY{u:Nat}{acc:List Int}(h:qq ((u:Int),acc))(hu: ¬u<128):qq (((u/ 128:Nat):Int),acc++[((u%128+128:Nat):Int)]):=by
 obtain⟨v,f,aa,ae,av,aQ⟩:=h
 have:u=v:=by have:(u:Int)=v:=aa;omega
 subst this
 cases f with
 |zero=>exact absurd av (by simpa using hu)
 |succ f=>
  have aQ:acc.length+(f+1)≤9:=aQ
  exact⟨u/ 128,f,rfl,by omega,by rw[Nat.pow_succ]at av;omega,by show(acc++[_]).length+f≤9;rw[List.length_append];simp;omega⟩
theorem AV{d:Int × List Int}(h:qq d):d.2.length≤9:=by
 obtain⟨_,f,_,_,_,aQ⟩:=h
 omega
theorem NZ{d:Int × List Int}(h:qq d): ∃(u:Nat) (acc:List Int),d=((u:Int),acc)∧u<18446744073709551616:=by
 obtain⟨u,_,aa,ae,_⟩:=h
 exact⟨u,d.2,by rw[←aa],ae⟩
theorem u5{n:Int}(h:ie n):n4 n:=by
 unfold n4
 rw[NV h]
 refine⟨qq,fun d=>d.1.toNat,NW (qp h),?_,fun d hd=>⟨fun hc=>?_,fun hc=>?_⟩⟩
 ·have:=qp h
  show(((gT n:Nat):Int)).toNat<dT;unfold dT;omega
 ·obtain⟨u,acc,rfl,hu⟩:=NZ hd
  have ar:acc.length≤9:=AV hd
  have hc: ¬u<128:=by have:=of_decide_eq_true hc;simp only at this;omega
  have ad:=NR Unit acc hc
  unfold s8 at ad;rw[show decide ((u:Int)≥128)=true from decide_eq_true (by omega),cond_true]at ad
  have aA:=congrArg (fun s=>match s with|Step.bq x=>x.1|_=>0) ad
  have bh:=congrArg (fun s=>match s with|Step.bq x=>x.2|_=>[]) ad
  simp only at aA bh;refine⟨⟨?_,?_⟩,?_,?_⟩
  ·show acc.length+1≤maxLen
   unfold maxLen;omega
  ·show(acc.length+1)*1≤_
   omega
  ·show qq (bu .shr .u64 (u:Int) 7,List.append acc [bu .or .u8 (IntKind.wrap .u8 (u:Int)) 128])
   rw[aA,bh];exact NY hd hc
  ·show(bu .shr .u64 (u:Int) 7).toNat<(u:Int).toNat
   rw[aA];omega
 ·have ar:=AV hd
  refine⟨?_,?_⟩
  ·show d.2.length+1≤maxLen
   unfold maxLen;omega
  ·show(d.2.length+1)*1≤_
   omega
theorem AW{n:Int}(h:ie n):pn n:=by
 have key: ∀v:Int,v=((gT n:Nat):Int)→∃(bx:(Int × (List Int))→Prop) (gU:(Int × (List Int))→Nat),bx (v,[])∧gU (v,[])<dT∧∀(d0:Int × (List Int)),bx d0→(
  ((decide (d0.1≥128))=true→(
   let v11:List Int:=([(IntKind.wrap .u8 ((IntKind.wrap .u8 (bu .rem .u64 d0.1 (128:Int)))+(128:Int)))]:List Int)
   (List.length d0.2+List.length v11≤maxLen∧(List.length d0.2+List.length v11)*1≤140737488355328)∧
   bx ((bu .quo .u64 d0.1 (128:Int)),(List.append d0.2 v11))∧gU ((bu .quo .u64 d0.1 (128:Int)),(List.append d0.2 v11))<gU d0))∧((decide (d0.1≥128))=false→(
   List.length d0.2+List.length ([IntKind.wrap .u8 d0.1]:List Int)≤maxLen∧(List.length d0.2+List.length ([IntKind.wrap .u8 d0.1]:List Int))*1≤140737488355328))):=by
   rintro v rfl
   refine⟨qq,fun d=>d.1.toNat,NW (qp h),?_,fun d hd=>⟨fun hc=>?_,fun hc=>?_⟩⟩
   ·have:=qp h
    show(((gT n:Nat):Int)).toNat<dT;unfold dT;omega
   ·obtain⟨u,acc,rfl,hu⟩:=NZ hd
    have ar:acc.length≤9:=AV hd
    have hc: ¬u<128:=by have:=of_decide_eq_true hc;simp only at this;omega
    have ad:=NS Unit acc hc hu
    unfold s9 at ad;rw[show decide ((u:Int)≥128)=true from decide_eq_true (by omega),cond_true]at ad
    have aA:=congrArg (fun s=>match s with|Step.bq x=>x.1|_=>0) ad
    have bh:=congrArg (fun s=>match s with|Step.bq x=>x.2|_=>[]) ad
    simp only at aA bh;refine⟨⟨?_,?_⟩,?_,?_⟩
    ·show acc.length+1≤maxLen
     unfold maxLen;omega
    ·show(acc.length+1)*1≤_
     omega
    ·show qq (bu .quo .u64 (u:Int) 128,List.append acc [IntKind.wrap .u8 (IntKind.wrap .u8 (bu .rem .u64 (u:Int) 128)+128)])
     rw[aA,bh];exact NY hd hc
    ·show(bu .quo .u64 (u:Int) 128).toNat<(u:Int).toNat
     rw[aA];omega
   ·have ar:=AV hd
    refine⟨?_,?_⟩
    ·show d.2.length+1≤maxLen
     unfold maxLen;omega
    ·show(d.2.length+1)*1≤_
     omega
 have a6:=NH h
 unfold pn
 refine⟨fun hd=>?_,fun hd=>?_⟩
 ·rw[hd,cond_true]at a6
  exact key _ a6
 ·rw[hd,cond_false]at a6
  exact key _ a6
def fz(s:ByteArray):Prop:=s.size≤140737488351232
theorem fz.i64{s:ByteArray}(h:fz s):ie (s.size:Int):=by unfold fz at h;exact⟨by omega,by omega⟩
theorem EZ{s:ByteArray}(h:fz s):ig s=lJ (gT s.size)++s:=by
 unfold ig
 rw[AU h.i64]
 rfl
theorem WK{s:ByteArray}(h:fz s):qt s=lJ (gT s.size)++s:=by
 unfold qt
 rw[EY h.i64]
 rfl
theorem u6{s:ByteArray}(h:fz s):(ig s).size≤140737488351242:=by
 rw[EZ h,ByteArray.size_append]
 have:=xP (u:=gT s.size)
 unfold fz at h
 omega
theorem xQ{s:ByteArray}(h:fz s):rO s:=by
 refine⟨u5 h.i64,?_⟩
 have:=xP (u:=gT s.size)
 rw[AU h.i64]
 unfold fz at h
 omega
theorem WL{s:ByteArray}(h:fz s):AX s:=by
 refine⟨AW h.i64,?_⟩
 have:=xP (u:=gT s.size)
 rw[EY h.i64]
 unfold fz at h
 omega
theorem WM{s:ByteArray}(h:fz s):qt s=ig s:=by rw[WK h,EZ h]
theorem E0{n:Int}(h:ie n):jN n=fY n:=by rw[EY h,AU h]
theorem lK{n:Int}(h:ie n):(fY n).size≤10:=by rw[AU h];exact xP
end Go.aK
namespace Go.aK
open Go Go.eO
theorem WN(r:Rd)(n:Int):0≤(ic r n).1:=by
 unfold ic
 cases c8:((nY ((eJ r).2)) != 0)with
 |true=>exact Int.le_refl _
 |false=>
  simp only[cond_false]
  cases fy:decide ((eJ r).1<0)with
  |true=>exact Int.le_refl _
  |false=>
   simp only[cond_false]
   have fy:=of_decide_eq_false fy
   cases ml:decide ((eJ r).1>(if 0>n then 0 else n))with
   |true=>exact Int.le_refl _
   |false=>
    simp only[cond_false];omega
theorem E1(v:cY):mm v=n1 v:=by
 unfold mm n1 cC
 dsimp only
 have:rP v.n=xL v.n:=rfl
 rw[this]
 cases (v.kind==0)<;>cases (v.kind==4)<;>cases (v.kind==1)<;>cases (v.kind==2)<;>cases (v.kind==3)<;>rfl
theorem WO(v:cY):u7 v=AT v:=by
 unfold u7 AT cC
 dsimp only
 cases (v.kind==0)<;>cases (v.kind==4)<;>cases (v.kind==1)<;>cases (v.kind==2)<;>cases (v.kind==3)<;>rfl
theorem WQ(v:cY):u7 v=mm v:=by rw[WO,E1,Wn]
theorem ta(r:Rd):m6 r=(r,nY r):=by
 unfold m6 nY
 cases r.made<;>rfl
def dY(s:ByteArray):Prop:=s.size≤4611686018427387904
theorem N0{s:ByteArray}{k:Nat}(h:k<s.size):s.data.toList[k]? =some (s.data.toList.getD k 0)∧ew s (k:Int)=((s.data.toList.getD k 0).toNat:Int):=by
 have ar:k<s.data.toList.length:=h
 refine⟨by rw[List.getD_eq_getElem?_getD,List.getElem?_eq_getElem ar];rfl,?_⟩
 unfold ew
 rw[Int.toNat_natCast]
theorem N1{s:ByteArray}(h:dY s):xR s=k8 s:=by
 unfold dY at h
 unfold xR k8 ER
 dsimp only
 rw[Int.toNat_natCast,AY (b:=s5 s) (fun _ _=>True) s.size (fun i v hi _=>⟨?_,fun _ _=>trivial⟩) s.size 0 0 (Nat.zero_add _) trivial]
 ·cases bo (s5 s) 0 s.size 0<;>rfl
 ·obtain⟨aA,bh⟩:=N0 hi
  unfold s5;dsimp only;rw[aA,bh];dsimp only
  have hw:IntKind.wrap .i64 ((i:Int)+1)=((i+1:Nat):Int):=by rw[rN _ (by omega) (by omega)];omega
  rw[hw];rfl
theorem qu{r:Rd}(h:dY r.rest):gV r=((eJ r).2,(eJ r).1):=by
 unfold gV eJ
 rw[ta]
 dsimp only
 rw[N1 h]
 cases (nY r != 0)with
 |true=>rfl
 |false=>
  simp only[cond_false]
  cases ((k8 r.rest).2.2 != 0)<;>rfl
theorem N2{s:ByteArray}{a b:Nat}(h:dY s):dY (s.extract a b):=by
 unfold dY at h⊢
 rw[ByteArray.size_extract]
 omega
theorem po{r:Rd}(h:dY r.rest):dY (eJ r).2.rest:=by
 unfold eJ
 simp only[cond_eq_ite]
 repeat' split
 all_goals first|exact h|exact N2 h
theorem WR{r:Rd}{n:Int}(h:dY r.rest):dY (ic r n).2.rest:=by
 have:=po h
 unfold ic
 simp only[cond_eq_ite]
 repeat' split
 all_goals exact this
theorem xS{r:Rd}{n:Int}(h:dY r.rest):dY (pk r n).2.rest:=by
 have:=WR (n:=n) h
 unfold pk
 simp only[cond_eq_ite]
 repeat' split
 all_goals first|exact this|exact N2 this
theorem N3{r:Rd}{n:Int}(h:dY r.rest):xT r n=((ic r n).2,(ic r n).1):=by
 unfold xT ic
 rw[qu h]
 dsimp only
 rw[ta]
 simp only[cond_eq_ite]
 repeat' split
 all_goals first|rfl|(simp_all[cA.den])
theorem xU{r:Rd}{n:Int}(h:dY r.rest):ix r n=((pk r n).2,(pk r n).1):=by
 unfold ix pk
 rw[N3 h]
 dsimp only
 rw[ta]
 simp only[cond_eq_ite]
 repeat' split
 all_goals rfl
theorem WS(r:Rd)(e:Int):AZ r e=xK r e:=by
 unfold AZ xK
 rw[ta]
theorem N4(r:Rd):(⟨r.rest,r.err,r.made⟩:Rd)=r:=rfl
theorem WT{r:Rd}(h:dY r.rest):u9 r=((u4 r).2,(u4 r).1):=by
 have aa:=po h
 unfold u9 u4 u3 ES xM
 rw[qu h]
 dsimp only
 rw[qu aa,xU aa]
 simp only[ta,WS,E1,N4]
 cases ((eJ r).1==1)<;>cases ((eJ r).1==2)<;>cases ((eJ r).1==3)<;>cases ((eJ r).1==4)<;>simp only[cond_true,cond_false,Bool.true_or,Bool.or_true,Bool.false_or,Bool.or_false,N4]<;>(cases (n1 _ != 0)<;>simp only[cond_true,cond_false]<;>(cases (nY _ != 0)<;>rfl))
end Go.aK
namespace Go.aK
open Go Go.eO
theorem WU{s:ByteArray}(h:dY s):E2 s:=by
 unfold dY at h
 refine⟨⟨by omega,by omega⟩,fun i _=>i≤9,Nat.zero_le _,fun i d _ hi=>?_⟩
 have hi:i≤9:=hi
 intro v5 hc
 refine⟨?_,fun m4=>?_⟩
 ·show 0≤IntKind.wrap .i64 (7*(i:Int))
  rw[rN _ (by omega) (by omega)]
  omega
 ·have m4:=of_decide_eq_false m4
  show i+1≤9
  rcases Nat.lt_or_ge i 9 with kC|kC
  ·exact kC
  ·have:i=9:=by omega
   subst this;simp only[Bool.or_eq_false_iff,Bool.and_eq_false_iff]at hc
   rcases hc.2 with h|h
   ·exact absurd h (by decide)
   ·have:=of_decide_eq_false h
    omega
theorem WV{s:ByteArray}(h:(k8 s).2.2=0):0≤(k8 s).2.1∧(k8 s).2.1≤(s.size:Int):=by
 obtain⟨u,t,aa,ae,av,aQ⟩:=WB (s:=s) (U:=(k8 s).1) (N:=(k8 s).2.1) (by rw[←h])
 rw[av]
 have:=congrArg ByteArray.size ae
 rw[ByteArray.size_append]at this
 omega
theorem n5{r:Rd}(h:dY r.rest):m7 r:=by
 unfold m7
 rw[ta]
 intro v1 _
 refine⟨WU h,fun hc=>?_⟩
 have hc:=Wl hc
 rw[N1 h]at hc⊢
 exact WV hc
theorem WW{r:Rd}{n:Int}(h:dY r.rest):E3 r n:=n5 h
theorem rQ{r:Rd}{n:Int}(h:dY r.rest):rR r n:=by
 refine⟨WW h,?_⟩
 rw[N3 h]
 show(_ != 0)=false→_
 rw[ta]
 intro _ hd
 have hd:=of_decide_eq_false hd
 have hn:=WN r n
 have hd: ¬(ic r n).1>((ic r n).2.rest.size:Int):=hd
 exact⟨⟨hn,by omega⟩,hn,by omega⟩
theorem WX{r:Rd}(h:dY r.rest):A0 r:=by
 have aa:=po h
 unfold A0
 rw[qu h]
 dsimp only
 refine⟨n5 h,⟨fun _=>⟨fun _=>n5 aa,fun _ _=>rQ aa⟩,fun _=>⟨fun _=>⟨fun _=>n5 aa,fun _ _=>rQ aa⟩,fun _=>⟨fun _=>n5 aa,fun _ _=>rQ aa⟩⟩⟩⟩
theorem WY{r:Rd}{e:Int}(h:dY r.rest):dY (xK r e).rest:=by
 unfold xK
 cases (nY r==0)<;>exact h
theorem WZ{r:Rd}(h:dY r.rest):dY (u4 r).2.rest:=by
 have aa:=po h
 have ae:dY (xM r).rest:=by
  unfold xM;simp only[cond_eq_ite]
  repeat' split
  ·exact po aa
  ·exact xS aa
  ·exact aa
 have av:dY (u3 r).rest:=by
  unfold u3;simp only[cond_eq_ite]
  split
  ·exact WY ae
  ·exact ae
 unfold u4
 simp only[cond_eq_ite]
 split<;>exact av
def va(s:ByteArray):Int × Rd:=eJ (Wk s)
def vb(s:ByteArray):Int × Rd:=eJ (va s).2
def vc(s:ByteArray):Int × Rd:=eJ (vb s).2
def vd(s:ByteArray):ByteArray × Rd:=pk (vc s).2 24
def ve(s:ByteArray):ByteArray × Rd:=pk (vd s).2 24
def vf(s:ByteArray):ByteArray × Rd:=pk (ve s).2 24
def E4(s:ByteArray):cY × Rd:=u4 (vf s).2
theorem W0{s:ByteArray}(h:dY s):dY (va s).2.rest∧dY (vb s).2.rest∧dY (vc s).2.rest∧dY (vd s).2.rest∧dY (ve s).2.rest∧dY (vf s).2.rest∧dY (E4 s).2.rest:=by
 have aa:dY (va s).2.rest:=po h
 have ae:dY (vb s).2.rest:=po aa
 have av:dY (vc s).2.rest:=po ae
 have aQ:dY (vd s).2.rest:=xS av
 have bL:dY (ve s).2.rest:=xS aQ
 have cT:dY (vf s).2.rest:=xS bL
 exact⟨aa,ae,av,aQ,bL,cT,WZ cT⟩
theorem W1{s:ByteArray}(h:dY s):vg s:=by
 obtain⟨aa,ae,av,aQ,bL,cT,fr⟩:=W0 h
 have aA:gV ⟨s,0,true⟩=((va s).2,(va s).1):=qu (r:=⟨s,0,true⟩) h
 have bh:gV (va s).2=((vb s).2,(vb s).1):=qu aa
 have ct:gV (vb s).2=((vc s).2,(vc s).1):=qu ae
 have e1:ix (vc s).2 24=((vd s).2,(vd s).1):=xU av
 have n3:ix (vd s).2 24=((ve s).2,(ve s).1):=xU aQ
 have tc:ix (ve s).2 24=((vf s).2,(vf s).1):=xU bL
 have A1:u9 (vf s).2=((E4 s).2,(E4 s).1):=WT cT
 unfold vg
 simp only[aA,bh,ct,e1,n3,tc,A1]
 exact⟨n5 (r:=⟨s,0,true⟩) h,n5 aa,n5 ae,rQ av,rQ aQ,rQ bL,WX cT,rQ fr⟩
end Go.aK
namespace Go.aK
open Go Go.eO
def n6(P:Int→Int→Bool)(x:ByteArray):Nat→Nat→Bool
 |_,0=>true
 |k,n+1=>!P (ew x (k:Int)) (k:Int)&&n6 P x (k+1) n
theorem N5{P:Int→Int→Bool}{x:ByteArray}{b:Nat→Unit→Step Bool Unit}(ad: ∀i v,b i v=bif P (ew x (i:Int)) (i:Int)then .ret false else .bq ()):
 ∀(n k:Nat),bo b k n ()=bif n6 P x k n then .inr ()else .inl false
 |0,_=>rfl
 |n+1,k=>by
  unfold bo n6;rw[ad]
  cases P (ew x (k:Int)) (k:Int)with
  |true=>rfl
  |false=>exact N5 ad n (k+1)
theorem N6{x:ByteArray}{k:Nat}(aj:k<x.size):ew x (k:Int)=((x[k]'aj).toNat:Int):=by
 rw[(N0 aj).2,List.getD_eq_getElem?_getD,List.getElem?_eq_getElem (show k<x.data.toList.length from aj)]
 rfl
theorem N7{P:Int→Int→Bool}(qv: ∀c i,128≤c→P c i=true){x:ByteArray}{b:Int→Step Bool Int}
 (ad: ∀c,b c=bif cA.den .lL x c then(bif P (cA.den .lM x c) (cA.den .lN x c)then .ret false else .bq (cA.den .kD x c))else .cK c):
 ∀(n p F:Nat),x.size-p=n→n<F→∃v,c5 b F (p:Int)=bif n6 P x p n then .inr v else .inl false
 |n,p,0,_,h=>absurd h (Nat.not_lt_zero _)
 |0,p,F+1,hn,_=>by
  refine⟨(p:Int),?_⟩
  have:cA.den .lL x (p:Int)=false:=decide_eq_false (by rw[Int.toNat_natCast];omega)
  rw[NI (y:=(p:Int)) (by rw[ad,this,cond_false]),n6,cond_true]
 |n+1,p,F+1,hn,hF=>by
  have ak:p<x.size:=by omega
  have aa:cA.den .lL x (p:Int)=true:=decide_eq_true (by rw[Int.toNat_natCast];exact ak)
  have av:cA.den .lN x (p:Int)=(p:Int):=by show((p:Int).toNat:Int)=p;rw[Int.toNat_natCast]
  have ae:cA.den .lM x (p:Int)=((Utf8.decode x p).1:Int):=by show((Utf8.decode x (p:Int).toNat).1:Int)=_;rw[Int.toNat_natCast]
  have aQ:cA.den .kD x (p:Int)=((p+(Utf8.decode x p).2:Nat):Int):=by show(((p:Int).toNat+(Utf8.decode x (p:Int).toNat).2:Nat):Int)=_;rw[Int.toNat_natCast]
  rcases Nat.lt_or_ge (x[p]'ak).toNat 128 with a6|a6
  ·have hd:=decode_ascii x p ak a6
   have aw:((Utf8.decode x p).1:Int)=ew x (p:Int):=by rw[hd,N6 ak]
   have W2:p+(Utf8.decode x p).2=p+1:=by rw[hd]
   cases aJ:P (ew x (p:Int)) (p:Int)with
   |true=>
    refine⟨0,?_⟩
    unfold c5 n6;rw[ad,aa,cond_true,ae,av,aw,aJ];rfl
   |false=>
    obtain⟨v,aZ⟩:=N7 qv ad n (p+1) F (by omega) (by omega)
    refine⟨v,?_⟩
    rw[NJ (y:=((p+1:Nat):Int)) (by rw[ad,aa,cond_true,ae,av,aw,aJ,cond_false,aQ,W2]),aZ]
    conv=>rhs;rw[n6]
    rw[aJ];rfl
  ·have hd:=(decode_high x p ak a6).1
   have aA:P ((Utf8.decode x p).1:Int) (p:Int)=true:=qv _ _ (by omega)
   have bh:P (ew x (p:Int)) (p:Int)=true:=qv _ _ (by rw[N6 ak];omega)
   refine⟨0,?_⟩
   unfold c5 n6;rw[ad,aa,cond_true,ae,av,aA,bh];rfl
theorem W3{P:Int→Int→Bool}(qv: ∀c i,128≤c→P c i=true){x:ByteArray}(s7:x.size<18446744073709551616):
 ∃(bx:Int→Prop) (gU:Int→Nat),bx 0∧gU 0<dT∧∀(d0:Int),bx d0→(cA.den .lL x d0=true→(P (cA.den .lM x d0) (cA.den .lN x d0)=false→bx (cA.den .kD x d0)∧gU (cA.den .kD x d0)<gU d0)):=by
 refine⟨fun d=>0≤d,fun d=>x.size-d.toNat,Int.le_refl _,by unfold dT;show x.size-(0:Int).toNat<_;omega,fun d hd aa ae=>?_⟩
 obtain⟨p,rfl⟩: ∃p:Nat,d=p:=⟨d.toNat,(Int.toNat_of_nonneg hd).symm⟩
 have ak:p<x.size:=by have:=of_decide_eq_true aa;rwa[Int.toNat_natCast]at this
 have av:cA.den .lN x (p:Int)=(p:Int):=by show((p:Int).toNat:Int)=p;rw[Int.toNat_natCast]
 have vh:cA.den .lM x (p:Int)=((Utf8.decode x p).1:Int):=by show((Utf8.decode x (p:Int).toNat).1:Int)=_;rw[Int.toNat_natCast]
 have aQ:cA.den .kD x (p:Int)=((p+(Utf8.decode x p).2:Nat):Int):=by show(((p:Int).toNat+(Utf8.decode x (p:Int).toNat).2:Nat):Int)=_;rw[Int.toNat_natCast]
 rcases Nat.lt_or_ge (x[p]'ak).toNat 128 with a6|a6
 ·have hd:=decode_ascii x p ak a6
  rw[aQ,hd];refine⟨by show(0:Int)≤_;omega,?_⟩
  show x.size-(((p+1:Nat):Int)).toNat<x.size-((p:Int)).toNat;omega
 ·have hd:=(decode_high x p ak a6).1
  rw[vh,av,qv _ _ (by omega)]at ae
  cases ae
def pq(c i:Int):Bool:=(!(decide (c≥97)&&decide (c≤122)))&&((i==0)||(((c != 95)&&(c != 45))&&((decide (c<48))||(decide (c>57)))))
theorem N8(c i:Int)(h:128≤c):pq c i=true:=by
 unfold pq
 have aa:decide (c≤122)=false:=decide_eq_false (by omega)
 have ae:(c != 95)=true:=by simp;omega
 have av:(c != 45)=true:=by simp;omega
 have aQ:decide (c>57)=true:=decide_eq_true (by omega)
 simp only[aa,ae,av,aQ,Bool.and_false,Bool.not_false,Bool.and_true,Bool.or_true,Bool.true_and]
def valid(x:ByteArray):Bool:=bif((decide ((ByteArray.size x:Int)<1))||(decide ((ByteArray.size x:Int)>24)))then false else n6 pq x 0 x.size
theorem xV(x:ByteArray):ih x=valid x:=by
 unfold ih valid
 cases h:((decide ((ByteArray.size x:Int)<1))||(decide ((ByteArray.size x:Int)>24)))with
 |true=>rfl
 |false=>
  simp only[Bool.or_eq_false_iff,decide_eq_false_iff_not]at h;simp only[cond_false];obtain⟨v,aw⟩:=N7 N8 (x:=x) (b:=fun(aW:Int)=>bif cA.den .lL x aW then(bif pq (cA.den .lM x aW) (cA.den .lN x aW)then Step.ret false else .bq (cA.den .kD x aW))else .cK aW) (fun _=>rfl) x.size 0 dT (by omega) (by unfold dT;omega)
  have:(c5 (fun(aW:Int)=>bif cA.den .lL x aW then(bif pq (cA.den .lM x aW) (cA.den .lN x aW)then Step.ret false else .bq (cA.den .kD x aW))else .cK aW) dT 0:Bool⊕Int)=_:=aw
  show Sum.elim _ _ (c5 (fun(aW:Int)=>bif cA.den .lL x aW then(bif pq (cA.den .lM x aW) (cA.den .lN x aW)then Step.ret false else .bq (cA.den .kD x aW))else .cK aW) dT 0:Bool⊕Int)=_
  rw[this]
  cases n6 pq x 0 x.size<;>rfl
theorem qw(x:ByteArray):m8 x:=by
 intro h
 simp only[Bool.or_eq_false_iff,decide_eq_false_iff_not]at h
 exact W3 N8 (x:=x) (by omega)
theorem xW(x:ByteArray):jO x=valid x:=by
 unfold jO valid
 dsimp only
 cases h:((decide ((ByteArray.size x:Int)<1))||(decide ((ByteArray.size x:Int)>24)))with
 |true=>rfl
 |false=>
  simp only[cond_false];rw[Int.toNat_natCast];show Sum.elim _ _ (bo (fun(i6:Nat) (_:Unit)=>bif pq (ew x (i6:Int)) (i6:Int)then(Step.ret false:Step Bool Unit)else .bq ()) 0 x.size ())=_
  rw[N5 (P:=pq) (x:=x) (fun _ _=>rfl)]
  cases n6 pq x 0 x.size<;>rfl
theorem W4(x:ByteArray):pr x:=by
 intro h
 simp only[Bool.or_eq_false_iff,decide_eq_false_iff_not]at h
 omega
end Go.aK
namespace Go.aK
open Go Go.eO
theorem vi(a b:ByteArray):ByteArray.size (ByteArray.append a b)=a.size+b.size:=ByteArray.size_append
theorem vj{n:Int}(aa: -1099511627776≤n)(ae:n≤1099511627776):ie n:=⟨by omega,by omega⟩
structure N9 (v:cY):Prop where
 k:ie v.kind
 n:ie v.n
 s:fz v.s
theorem W5{v:cY}(h:mm v≠0):pt v=fY 0:=by
 unfold pt
 rw[show(mm v != 0)=true by simpa using h]
 rfl
theorem W6{s:ByteArray}(h:s.size≤60):fz s:=by unfold fz;omega
theorem W7{s:ByteArray}(h:s.size≤60):(ig s).size≤70:=by
 rw[EZ (W6 h),ByteArray.size_append]
 have:=xP (u:=gT s.size)
 omega
theorem E5:ie 0:=vj (by decide) (by decide)
theorem W8(v:cY):(pt v).size≤80:=by
 have aP:=lK E5
 by_cases h:mm v=0
 ·have hc:n1 v=0:=by rw[←E1];exact h
  unfold pt;rw[show(mm v != 0)=false by simpa using h]
  rcases WE hc with⟨aa,ae,av⟩|⟨aa,ae,av,aQ⟩|⟨aa,ae,av⟩
  ·rw[aa]
   show(fY 0).size≤80;omega
  ·have hn:=lK (vj av aQ)
   rcases aa with aa|aa|aa
   ·rw[aa]
    show(ByteArray.append (fY 1) (fY v.n)).size≤80;rw[vi]
    have:=lK (n:=1) (vj (by decide) (by decide))
    omega
   ·rw[aa]
    show(ByteArray.append (fY 2) (fY v.n)).size≤80;rw[vi]
    have:=lK (n:=2) (vj (by decide) (by decide))
    omega
   ·rw[aa]
    show(ByteArray.append (fY 3) (fY v.n)).size≤80;rw[vi]
    have:=lK (n:=3) (vj (by decide) (by decide))
    omega
  ·have ai:=W7 av
   rw[aa];show(ByteArray.append (fY 4) (ig v.s)).size≤80;rw[vi]
   have:=lK (n:=4) (vj (by decide) (by decide))
   omega
 ·rw[W5 h]
  omega
def A2(k n:Int)(s:ByteArray)(b:Bool):Prop:=(b=true→(n4 n∧(fY k).size+(fY n).size≤9223372036854775807))∧(b=false→((k==4)=true→(rO s∧(fY k).size+(ig s).size≤9223372036854775807)))
theorem W9{v:cY}(aw:N9 v):E6 v:=by
 have key: ∀(k n:Int) (s:ByteArray),ie k→ie n→fz s→(n4 k)∧((k==1)=true→A2 k n s (k==1))∧((k==1)=false→((k==2)=true→A2 k n s (k==2))∧((k==2)=false→A2 k n s (k==3))):=by
  intro k n s aj hn ai
  have cb:=lK aj
  have a2:=lK hn
  have a3:=u6 ai
  have af: ∀b,A2 k n s b:=fun b=>⟨fun _=>⟨u5 hn,by omega⟩,fun _ _=>⟨xQ ai,by omega⟩⟩
  exact⟨u5 aj,fun _=>af _,fun _=>⟨fun _=>af _,fun _=>af _⟩⟩
 exact⟨fun _=>key 0 0 ⟨#[]⟩ E5 E5 (by unfold fz;exact Nat.zero_le _),fun _=>key v.kind v.n v.s aw.k aw.n aw.s⟩
structure A3 (q:b3):Prop where
 k:ie q.kind
 n:ie q.dS
 d:ie q.key.dev
 c:fz q.key.dc
 a:fz q.key.attr
 m:fz q.name
 v:N9 q.value
 t:fz q.text
theorem Oa{q:b3}(h:A3 q):(fY q.kind).size≤10∧(fY q.dS).size≤10∧(fY q.key.dev).size≤10∧(ig q.key.dc).size≤140737488351242∧(ig q.key.attr).size≤140737488351242∧(ig q.name).size≤140737488351242∧(pt q.value).size≤80∧(ig q.text).size≤140737488351242:=
 ⟨lK h.k,lK h.n,lK h.d,u6 h.c,u6 h.a,u6 h.m,W8 _,u6 h.t⟩
theorem Xa{q:b3}(h:A3 q):dY (qx q):=by
 obtain⟨aa,ae,av,aQ,bL,cT,fr,m4⟩:=Oa h
 have Xb:(pt ⟨q.value.kind,q.value.n,q.value.s⟩).size≤80:=fr
 unfold dY qx
 simp only[vi]
 omega
theorem Xc{q:b3}(h:A3 q):xX q:=by
 obtain⟨aa,ae,av,aQ,bL,cT,fr,m4⟩:=Oa h
 have Xb:(pt ⟨q.value.kind,q.value.n,q.value.s⟩).size≤80:=fr
 refine⟨u5 h.k,u5 h.n,?_,u5 h.d,?_,xQ h.c,?_,xQ h.a,?_,xQ h.m,?_,W9 h.v,?_,xQ h.t,?_⟩<;>(try simp only[vi])<;>omega
end Go.aK
namespace Go.aK
open Go Go.eO
theorem E7{l:List ByteArray}(h:l.length≤1000000):vk l:=by
 unfold vk maxLen
 omega
theorem Xd{l:List cS}(h:l.length≤1000000):A4 l:=by
 unfold A4 maxLen
 omega
theorem Xe(l:List ByteArray):A5 l:=by
 unfold A5
 repeat' (first|exact trivial|exact qw _|intro _|refine And.intro ?_ ?_|refine Exists.intro (fun _ _=>True) (And.intro trivial ?_))
theorem E8(a:Attr):vl a:=by
 unfold vl
 repeat' (first|exact trivial|exact qw _|exact Xe _|intro _|refine And.intro ?_ ?_|refine Exists.intro (fun _ _=>True) (And.intro trivial ?_))
theorem E9(a:Attr)(v:cY):xY a v:=E8 a
theorem A6{α:Type}{l:List α}{i:Nat}{d:α}(h:i<l.length):List.getD l i d∈l:=by
 rw[List.getD_eq_getElem?_getD,List.getElem?_eq_getElem h]
 exact List.getElem_mem h
theorem toNat_cast(n:Nat):Int.toNat (n:Int)=n:=Int.toNat_natCast n
theorem Ob{c:aN}{x:ByteArray}(h: ∀a∈c.attrs,a.enum.length≤64):xZ c x:=by
 refine⟨fun _ _=>True,trivial,fun i _ hi _=>⟨fun _=>E7 ?_,fun _=>trivial⟩⟩
 rw[toNat_cast]at hi⊢
 have:=h _ (A6 (d:=aE .Attr) hi)
 omega
theorem Xf(x y:List ByteArray):Fa x y:=by
 intro h
 have h:((x.length:Int) != (y.length:Int))=false:=h
 have h:(x.length:Int)=(y.length:Int):=by simpa using h
 refine⟨fun _ _=>True,trivial,fun i _ hi _=>⟨?_,fun _=>trivial⟩⟩
 rw[toNat_cast]at hi
 omega
theorem Xg(a b:Attr):Fb a b:=fun _=>Xf _ _
theorem Xh(x:cS)(a b:Attr):A7 x a b:=by
 unfold A7
 repeat' (first|exact trivial|exact E9 _ _|exact Xg _ _|intro _|refine And.intro ?_ ?_)
theorem Xi{c:aN}(a:Attr)(x:cS)(h: ∀a∈c.attrs,a.enum.length≤64):A8 c a x:=by
 unfold A8
 repeat' (first|exact trivial|exact Ob h|exact Xh _ _ _|intro _|refine And.intro ?_ ?_)
theorem vm{α:Type}{l:List α}{i:Int}(aP:0≤i)(h:i≤l.length):ju l.length none (some i):=by
 simp only[ju]
 omega
theorem Xj{c:aN}{i:Int}(h: ∀a∈c.attrs,a.enum.length≤64)(aP:0≤i)(aa:i<c.commands.length):A9 c i:=by
 unfold A9
 repeat' (first|exact trivial|exact aP|exact aa|exact qw _|exact E8 _|exact Xi _ _ h|exact vm aP (by omega)|intro _|refine And.intro ?_ ?_|refine Exists.intro (fun _ _=>True) (And.intro trivial ?_))
theorem lI{a:Int}(h:(a != 0)=false):a=0:=by simpa using h
theorem Xk{l:List ByteArray}(h:vn l=0):l.length≤64:=by
 unfold vn at h
 dsimp only at h
 simp only[cond_eq_ite]at h
 split at h
 ·cases h
 ·rename_i ai
  simp only[Bool.or_eq_true,decide_eq_true_eq,not_or]at ai;omega
theorem Fc{a:Attr}(h:kE a=0):a.enum.length≤64:=by
 unfold kE at h
 dsimp only at h
 simp only[cond_eq_ite]at h
 repeat' split at h
 all_goals first|(cases h;done)|exact Xk h|(rename_i ai;simp only[decide_eq_true_eq]at ai;omega)
theorem Xl(c:aN):Fe c:=by
 refine⟨qw _,fun _ _=>⟨fun k _=>∀j,j<k→∀a,c.attrs[j]? =some a→a.enum.length≤64,fun j af=>absurd af (by omega),fun i _ hi bW=>⟨E8 _,fun m4=>⟨?_,⟨fun _ _=>True,trivial,fun _ _ _ _ _=>trivial,fun _ _=>?_⟩⟩⟩,fun _ bW=>?_⟩⟩
 ·rw[toNat_cast]at hi
  exact vm (by omega) (by omega)
 ·have m4:=Fc (lI m4)
  rw[toNat_cast]at hi m4;show ∀j,j<i+1→∀a,c.attrs[j]? =some a→a.enum.length≤64;intro j af a a6
  by_cases gr:j=i
  ·subst gr
   rw[List.getD_eq_getElem?_getD,a6]at m4
   exact m4
  ·exact bW j (by omega) a a6
 ·rw[toNat_cast]at bW
  have c8: ∀a∈c.attrs,a.enum.length≤64:=fun a a6=>by
   obtain⟨j,af,rfl⟩:=List.mem_iff_getElem.1 a6;exact bW j af _ (List.getElem?_eq_getElem af)
  refine⟨fun _ _=>True,trivial,fun i _ hi _=>⟨Xj c8 (by omega) (by rw[toNat_cast]at hi;omega),fun _=>trivial⟩,fun _ _=>⟨fun _ _=>True,trivial,fun i _ hi _=>⟨qw _,fun _=>⟨vm (by omega) (by rw[toNat_cast]at hi;omega),fun _=>trivial⟩⟩⟩⟩
theorem Xm(l:List aN):Ff l:=by
 refine fun _=>⟨fun _ _=>True,trivial,fun i _ hi _=>⟨Xl _,fun _=>⟨vm (by omega) (by rw[toNat_cast]at hi;omega),⟨fun _ _=>True,trivial,fun _ _ _ _ _=>trivial,fun _ _=>trivial⟩⟩⟩⟩
theorem kg{n:Int}(aa: -9223372036854775808≤n)(ae:n≤9223372036854775807):IntKind.wrap .i64 n=n:=by
 rw[IntKind.wrap_i64]
 omega
theorem Fg(h:Home):x1 h:=by
 refine⟨Xm _,fun _ av=>⟨fun _ _=>True,trivial,fun i _ hi _ _=>⟨fun aw=>?_,fun _ _=>⟨qw _,fun _ _=>trivial⟩⟩⟩⟩
 have aw:=of_decide_eq_true aw
 have av:=of_decide_eq_false av
 rw[toNat_cast]at hi
 show 0≤IntKind.wrap .i64 ((i:Int)-1)∧IntKind.wrap .i64 ((i:Int)-1)<(h.bw.length:Int)
 rw[kg (by omega) (by omega)]
 omega
theorem Fh(h:Home)(x:Int):x2 h x:=Fg h
end Go.aK
namespace Go.aK
open Go Go.eO
def cB(q:Nat→Bool)(n:Nat):Option Nat:=(List.range n).find? q
theorem lO{q:Nat→Bool}{n i:Nat}(h:cB q n=some i):i<n∧q i=true∧∀j,j<i→q j=false:=by
 unfold cB at h
 rw[List.find?_range_eq_some]at h
 obtain⟨aa,ae,av⟩:=h
 exact⟨List.mem_range.1 ae,aa,fun j af=>by simpa using av j af⟩
theorem pv{q:Nat→Bool}{n:Nat}(h:cB q n=none): ∀j,j<n→q j=false:=fun j af=>by
 unfold cB at h
 rw[List.find?_range_eq_none]at h
 simpa using h j af
theorem xI{q:Nat→Bool}{n:Nat}(h: ∀j,j<n→q j=false):cB q n=none:=by
 unfold cB
 rw[List.find?_range_eq_none]
 exact fun j af=>by simp[h j af]
theorem uY{q:Nat→Bool}{n i:Nat}(hi:i<n)(aJ:q i=true)(hn: ∀j,j<i→q j=false):cB q n=some i:=by
 unfold cB
 rw[List.find?_range_eq_some]
 exact⟨aJ,List.mem_range.2 hi,fun j af=>by simp[hn j af]⟩
theorem Ba{q q':Nat→Bool}{n:Nat}(h: ∀j,j<n→q j=q' j):cB q n=cB q' n:=by
 cases aa:cB q' n with
 |none=>exact xI fun j af=>by rw[h j af];exact pv aa j af
 |some i=>
  obtain⟨a,b,c⟩:=lO aa;exact uY a (by rw[h i a];exact b) fun j af=>by rw[h j (by omega)];exact c j af
theorem Xn{R:Type}{p:Nat→Bool}{f:Nat→R}{b:Nat→Unit→Step R Unit}(ad: ∀i c,b i c=bif p i then .ret (f i)else .bq ()):
 ∀(n k:Nat),bo b k n ()=match(List.range' k n).find? p with|some i=>.inl (f i)|none=>.inr ():=by
 intro n
 induction n with
 |zero=>intro k;rfl
 |succ n aZ=>
  intro k;unfold bo;rw[ad,List.range'_succ,List.find?_cons]
  cases p k with
  |true=>rfl
  |false=>exact aZ (k+1)
theorem ib{R Q:Type}{p:Nat→Bool}{F:Nat→R}{b:Nat→Unit→Step R Unit}{f:R→Q}{g:Unit→Q}{n:Nat}(ad: ∀i u,b i u=bif p i then .ret (F i)else .bq ()):
 Sum.elim f g (bo b 0 n ())=match cB p n with|some i=>f (F i)|none=>g ():=by
 rw[Xn ad,←List.range_eq_range']
 show Sum.elim f g (match cB p n with|some i=>.inl (F i)|none=>.inr ())=_
 cases cB p n<;>rfl
theorem Oc{R A:Type}{b b':Nat→A→Step R A}: ∀(n k:Nat) (a:A),(∀i a,k≤i→i<k+n→b i a=b' i a)→bo b k n a=bo b' k n a
 |0,_,_,_=>rfl
 |n+1,k,a,h=>by
  unfold bo;rw[h k a (Nat.le_refl _) (by omega)]
  cases b' k a with
  |ret r=>rfl
  |cK bc=>rfl
  |bq bc=>exact Oc n (k+1) bc fun i a aa ae=>h i a (by omega) (by omega)
theorem el{R Q A:Type}{f:R→Q}{g g':A→Q}{b b':Nat→A→Step R A}{n:Nat}{a:A}(ad: ∀i a,i<n→b i a=b' i a)(ah: ∀a,g a=g' a):Sum.elim f g (bo b 0 n a)=Sum.elim f g' (bo b' 0 n a):=by
 rw[Oc n 0 a fun i a _ h=>ad i a (by omega),show g=g' from funext ah]
theorem nW(a b:ByteArray):cC .eql a b=decide (a=b):=uX a b
theorem Xo(a b:ByteArray):cC .neq a b= !decide (a=b):=by
 show(!dI a b)=_
 rw[uX]
theorem Od{q:Nat→Bool}{n i:Nat}(hi:i<n)(aJ:q i=true):decide ((match cB q n with|some j=>(j:Int)|none=> -1)<(i:Int))=(cB q i).isSome:=by
 cases h:cB q n with
 |none=>rw[pv h i hi]at aJ;cases aJ
 |some j=>
  obtain⟨aa,ae,av⟩:=lO h
  by_cases af:j<i
  ·rw[uY af ae av]
   exact decide_eq_true (by show(j:Int)<(i:Int);omega)
  ·rw[xI fun k aj=>av k (by omega)]
   exact decide_eq_false (by show ¬(j:Int)<(i:Int);omega)
theorem Fi(l:List ByteArray)(x:ByteArray):vo l x=match cB (fun i=>decide (x=l.getD i (aE .str))) l.length with|some i=>(i:Int)|none=> -1:=by
 unfold vo
 dsimp only
 rw[toNat_cast,ib (p:=fun i=>decide (x=l.getD i (aE .str))) (F:=fun i=>(i:Int)) (fun i u=>by simp only[nW,toNat_cast])]
theorem Xp(l:List ByteArray)(x:ByteArray):td l x=vo l x:=by
 rw[Fi]
 unfold td
 dsimp only
 rw[toNat_cast,ib (p:=fun i=>decide (l.getD i (aE .str)=x)) (F:=fun i=>(i:Int)) (fun i u=>by simp only[nW,toNat_cast]),Ba (q':=fun i=>decide (x=l.getD i (aE .str))) fun j _=>decide_eq_decide.2 eq_comm]
theorem Xq(l:List ByteArray)(x:ByteArray):te l x=(cB (fun i=>decide (x=l.getD i (aE .str))) l.length).isSome:=by
 unfold te
 dsimp only
 rw[toNat_cast,ib (p:=fun i=>decide (x=l.getD i (aE .str))) (F:=fun _=>true) (fun i u=>by simp only[nW,toNat_cast];rw[show(decide (l.getD i (aE .str)=x))=decide (x=l.getD i (aE .str))from decide_eq_decide.2 eq_comm])]
 all_goals cases cB (fun i=>decide (x=l.getD i (aE .str))) l.length<;>rfl
theorem Xr(l:List ByteArray)(x:ByteArray):jv l x=(cB (fun i=>decide (x=l.getD i (aE .str))) l.length).isSome:=by
 unfold jv
 rw[Fi]
 cases cB (fun i=>decide (x=l.getD i (aE .str))) l.length with
 |none=>rfl
 |some i=>exact decide_eq_true (by show(i:Int)≥0;omega)
theorem getD_take{α:Type}{l:List α}{i j:Nat}{d:α}(h:j<i):(l.take i).getD j d=l.getD j d:=by
 rw[List.getD_eq_getElem?_getD,List.getD_eq_getElem?_getD,List.getElem?_take,if_pos h]
theorem rS{α:Type}(l:List α)(i:Nat):iy l none (some (i:Int))=l.take i:=rfl
theorem Xs{l:List ByteArray}{i:Nat}(hi:i<l.length):decide (qy l (l.getD i (aE .str))<(i:Int))=te (iy l none (some (i:Int))) (l.getD i (aE .str)):=by
 unfold qy
 rw[Fi,Xq,rS,List.length_take,Nat.min_eq_left (by omega),Od hi (decide_eq_true rfl)]
 rw[Ba (q':=fun j=>decide (l.getD i (aE .str)=(l.take i).getD j (aE .str))) fun j af=>by rw[getD_take af]]
theorem Xt(l:List ByteArray):(bif((decide ((List.length l:Int)<1))||(decide ((List.length l:Int)>64)))then 3 else
    Sum.elim (fun r=>r) (fun _=>0) (bo (fun(i13:Nat) (_:Unit)=>bif(!(jO (List.getD l (Int.toNat (i13:Int)) (aE .str))))then(.ret 10:Step Int Unit)else
      bif(te (iy l none (some (i13:Int))) (List.getD l (Int.toNat (i13:Int)) (aE .str)))then .ret 9 else .bq ()) 0 (Int.toNat (List.length l:Int)) ():Int⊕Unit))=vn l:=by
  unfold vn;dsimp only;refine congrArg (cond _ 3) ?_
  rw[toNat_cast];refine el (fun i _ hi=>?_) fun _=>rfl
  simp only[toNat_cast,xW,xV];rw[Xs hi]
theorem Fj(a:Attr):pw a=kE a:=by
 unfold pw kE rP
 rw[xW,xV]
 dsimp only
 rw[Xt]
 have aj:(a.kind != 3)= !(a.kind==3):=rfl
 rw[aj]
 have ad:((!(decide (a.min≥ -1099511627776)&&decide (a.min≤1099511627776))|| !(decide (a.max≥ -1099511627776)&&decide (a.max≤1099511627776)))||decide (a.min>a.max))=((decide (a.min< -1099511627776)||decide (a.max>1099511627776))||decide (a.min>a.max)):=by
  rw[Bool.eq_iff_iff];simp only[Bool.or_eq_true,Bool.not_eq_true',Bool.and_eq_false_iff,decide_eq_false_iff_not,decide_eq_true_eq];omega
 rw[←ad]
 cases a.kind==3<;>cases a.kind==2<;>cases (decide (a.min≥ -1099511627776)&&decide (a.min≤1099511627776))<;>rfl
end Go.aK
namespace Go.aK
open Go Go.eO
theorem Xu(v:Int):(Bb v != v)=((decide (v<(-1099511627776)))||(decide (v>1099511627776))):=by
 have e:Bb v=if(1099511627776:Int)<(if(-1099511627776:Int)>v then(-1099511627776:Int)else v)then(1099511627776:Int)else(if(-1099511627776:Int)>v then(-1099511627776:Int)else v):=rfl
 rw[e,Bool.eq_iff_iff]
 simp only[bne_iff_ne,Bool.or_eq_true,decide_eq_true_eq]
 split<;>split<;>omega
theorem Xv(a:Attr)(v:cY):vp a v=vq a v:=by
 unfold vp vq
 rw[Fj,WQ]
 dsimp only
 generalize (v.kind==2&&(decide (v.n<a.min)||decide (v.n>a.max)))=A
 cases A<;>rfl
theorem Oe(x y:List ByteArray):x3 x y=x4 x y:=rfl
theorem Fk(x y:List ByteArray):x4 x y=decide (x=y):=by
 unfold x4
 dsimp only
 by_cases h:(x.length:Int)=(y.length:Int)
 ·rw[show((x.length:Int) != (y.length:Int))=false by simpa using h,cond_false,toNat_cast,ib (p:=fun i=>!decide (x.getD i (aE .str)=y.getD i (aE .str))) (F:=fun _=>false) (fun i u=>by simp only[Xo,toNat_cast])]
  cases hf:cB (fun i=>!decide (x.getD i (aE .str)=y.getD i (aE .str))) x.length with
  |none=>
   have hf:=pv hf
   refine(decide_eq_true ?_).symm
   refine List.ext_getElem (by omega) fun i aa ae=>?_
   have:=hf i aa
   simpa[List.getD_eq_getElem?_getD,List.getElem?_eq_getElem aa,List.getElem?_eq_getElem ae]using this
  |some i=>
   obtain⟨_,ae,_⟩:=lO hf;refine(decide_eq_false fun e=>?_).symm
   subst e;simp at ae
 ·rw[show((x.length:Int) != (y.length:Int))=true by simpa using h,cond_true]
  exact(decide_eq_false fun e=>h (by rw[e])).symm
theorem Xw(x y:Attr):Bc x y=((y.kind==x.kind)&&x3 y.enum x.enum):=by
 unfold Bc
 rw[Oe,Fk,Fk]
 have aa:(x.kind==y.kind)=(y.kind==x.kind):=by rw[Bool.eq_iff_iff];simp only[beq_iff_eq];exact eq_comm
 have ae:decide (x.enum=y.enum)=decide (y.enum=x.enum):=decide_eq_decide.2 eq_comm
 dsimp only
 rw[aa,ae]
 cases y.kind==x.kind<;>rfl
theorem Xx(x:cS)(a b:Attr):Bd x a b=Be x a b:=by
 unfold Bd Be
 rw[Xw]
 simp only[Xv]
 cases b.kind==a.kind<;>cases x.kind==1<;>rfl
theorem Xy(a:Attr):x5 a ⟨⟨#[]⟩,0,0,0,[],false,false⟩=tf a:=by
 unfold x5 tf
 dsimp only
 rw[Oe,Fk]
 have h:decide (a.enum=[])=((a.enum.length:Int)==0):=by
  rw[Bool.eq_iff_iff];simp
 rw[h]
 generalize (((cC .eql a.name ⟨#[]⟩&&a.kind==0)&&a.min==0)&&a.max==0)=A
 cases A<;>cases ((a.enum.length:Int)==0)<;>cases a.fA<;>cases a.safety<;>rfl
theorem Of(c:aN)(x:ByteArray):rT c x=match cB (fun i=>decide ((c.attrs.getD i (aE .Attr)).name=x)) c.attrs.length with|some i=>(i:Int)|none=> -1:=by
 unfold rT
 dsimp only
 rw[toNat_cast,ib (p:=fun i=>decide ((c.attrs.getD i (aE .Attr)).name=x)) (F:=fun i=>(i:Int)) (fun i u=>by simp only[nW,toNat_cast])]
 all_goals cases cB (fun i=>decide ((c.attrs.getD i (aE .Attr)).name=x)) c.attrs.length<;>rfl
theorem Xz(c:aN)(x:ByteArray):rU c x=match cB (fun i=>decide ((c.attrs.getD i (aE .Attr)).name=x)) c.attrs.length with|some i=>(c.attrs.getD i (aE .Attr),true)|none=>(⟨⟨#[]⟩,0,0,0,[],false,false⟩,false):=by
 unfold rU
 dsimp only
 rw[toNat_cast,ib (p:=fun i=>decide ((c.attrs.getD i (aE .Attr)).name=x)) (F:=fun i=>(c.attrs.getD i (aE .Attr),true)) (fun i u=>by simp only[nW,toNat_cast]<;>rfl)]
 all_goals cases cB (fun i=>decide ((c.attrs.getD i (aE .Attr)).name=x)) c.attrs.length<;>rfl
theorem XA(c:aN)(x:ByteArray):th c x=rU c x:=by
 unfold th
 rw[Of,Xz]
 cases cB (fun i=>decide ((c.attrs.getD i (aE .Attr)).name=x)) c.attrs.length with
 |none=>rfl
 |some i=>
  dsimp only;rw[decide_eq_false (show ¬(i:Int)<0 by omega),cond_false,toNat_cast]
theorem XB(c:aN)(a:Attr)(x:cS):x6 c a x=px c a x:=by
 unfold x6 px
 simp only[XA,Xx,←Xu]
 cases x.kind==3<;>rfl
theorem XC(c:aN){k:Nat}(aj:k<c.commands.length):x7 c (k:Int)=qz c (k:Int):=by
 unfold x7 qz
 simp only[xW,xV,XB,Fj,Xy,toNat_cast,rS,List.length_take,Nat.min_eq_left (Nat.le_of_lt aj)]
 refine congrArg (cond _ 10) ?_
 refine el (fun i _ hi=>?_) fun _=>rfl
 rw[getD_take hi]
theorem XD(c:aN):x8 c=qA c:=by
 unfold x8 qA
 dsimp only
 generalize (((decide ((List.length c.attrs:Int)>12))||(decide ((List.length c.commands:Int)>12)))||(decide ((List.length c.events:Int)>12)))=A
 rw[toNat_cast,ib (p:=fun i=>decide ((List.length ((List.getD c.commands i (aE .Command)).gC):Int)>12)) (F:=fun _=>true) (fun i u=>by simp only[toNat_cast]),ib (p:=fun i=>decide ((List.length ((List.getD c.commands i (aE .Command)).gC):Int)>12)) (F:=fun _=>true) (fun i u=>by simp only[toNat_cast])]
 all_goals cases A<;>cases cB (fun i=>decide ((List.length ((List.getD c.commands i (aE .Command)).gC):Int)>12)) c.commands.length<;>rfl
theorem XE{c:aN}{i:Nat}(hi:i<c.attrs.length):decide (rT c ((c.attrs.getD i (aE .Attr)).name)<(i:Int))=(cB (fun j=>decide ((c.attrs.getD j (aE .Attr)).name=(c.attrs.getD i (aE .Attr)).name)) i).isSome:=by
 rw[Of]
 exact Od hi (decide_eq_true rfl)
theorem Fl{α R Q:Type}(nm:α→ByteArray)(l:List α)(n:Nat)(d:α)(x:ByteArray)(r:R)(f:R→Q)(g:Unit→Q):
 Sum.elim f g (bo (fun(j:Nat) (_:Unit)=>bif cC .eql (nm (l.getD j d)) x then .ret r else .bq ()) 0 n ())=bif(cB (fun j=>decide (nm (l.getD j d)=x)) n).isSome then f r else g ():=by
 rw[ib (p:=fun j=>decide (nm (l.getD j d)=x)) (F:=fun _=>r) (fun i u=>by simp only[nW])]
 cases cB (fun j=>decide (nm (l.getD j d)=x)) n<;>rfl
theorem Bf{α R Q:Type}(nm:α→ByteArray)(l:List α)(n:Nat)(d:α)(x:ByteArray)(r:R)(f:R→Q)(g:Unit→Q):
 Sum.elim f g (bo (fun(j:Nat) (_:Unit)=>bif cC .eql (nm ((l.take n).getD j d)) x then .ret r else .bq ()) 0 n ())=bif(cB (fun j=>decide (nm (l.getD j d)=x)) n).isSome then f r else g ():=by
 rw[Fl nm (l.take n),Ba (q':=fun j=>decide (nm (l.getD j d)=x)) fun j af=>by rw[getD_take af]]
theorem XF(c:aN):x9 c=py c:=by
 unfold x9 py
 simp only[xW,xV,XD,Fj,toNat_cast]
 refine congrArg (cond _ 10) (congrArg (cond _ 3) ?_)
 refine el (fun i _ hi=>?_) fun _=>el (fun i _ hi=>?_) fun _=>el (fun i _ hi=>?_) fun _=>rfl
 ·refine congrArg (cond _ _) ?_
  rw[XE hi,rS,List.length_take,Nat.min_eq_left (Nat.le_of_lt hi),Bf (fun a:Attr=>a.name)]
 ·rw[XC c hi]
 ·refine congrArg (cond _ _) ?_
  rw[Fl (fun s:ByteArray=>s),Xr,rS,List.length_take,Nat.min_eq_left (Nat.le_of_lt hi)];rw[Ba (q':=fun j=>decide (c.events.getD i (aE .str)=(c.events.take i).getD j (aE .str))) fun j af=>by rw[getD_take af];exact decide_eq_decide.2 eq_comm]
theorem XG(l:List aN):ya l=pz l:=by
 unfold ya pz
 simp only[XF,toNat_cast]
 refine congrArg (cond _ 3) ?_
 refine el (fun i _ hi=>?_) fun _=>rfl
 refine congrArg (cond _ _) ?_
 rw[Fl (fun a:aN=>a.name),rS,List.length_take,Nat.min_eq_left (Nat.le_of_lt hi),Bf (fun a:aN=>a.name)]
end Go.aK
namespace Go.aK
open Go Go.eO
theorem ti{e:Nat→Int}{b:Nat→Unit→Step Int Unit}{g:Unit→Int}{n:Nat}(ad: ∀i,i<n→b i ()=bif(e i != 0)then .ret (e i)else .bq ()):
 Sum.elim (fun r=>r) g (bo b 0 n ())=0↔(∀i,i<n→e i=0)∧g ()=0:=by
 rw[el (b':=fun i _=>bif(e i != 0)then .ret (e i)else .bq ()) (fun i _ hi=>ad i hi) fun _=>rfl,ib (p:=fun i=>e i != 0) (F:=fun i=>e i) (fun _ _=>rfl)]
 cases h:cB (fun i=>e i != 0) n with
 |none=>
  have h:=pv h
  exact⟨fun ah=>⟨fun i hi=>by simpa using h i hi,ah⟩,fun ah=>ah.2⟩
 |some i=>
  obtain⟨aa,ae,_⟩:=lO h
  have ae:e i≠0:=by simpa using ae
  exact⟨fun he=>absurd he ae,fun he=>absurd (he.1 i aa) ae⟩
theorem mn{c:Bool}{x y:Int}(hx:x≠0)(h:(bif c then x else y)=0):c=false∧y=0:=by
 cases c with
 |true=>exact absurd h hx
 |false=>exact⟨rfl,h⟩
theorem vr{x y:Int}(h:(bif(x != 0)then x else y)=0):x=0∧y=0:=by
 cases hx:(x != 0)with
 |true=>
  rw[hx]at h
  have h:x=0:=h
  rw[h]at hx;simp at hx
 |false=>
  rw[hx]at h;exact⟨by simpa using hx,h⟩
structure pA (c:aN):Prop where
 wide:qA c=false
 attrs: ∀i,i<c.attrs.length→kE (c.attrs.getD i (aE .Attr))=0∧(cB (fun j=>decide ((c.attrs.getD j (aE .Attr)).name=(c.attrs.getD i (aE .Attr)).name)) i).isSome=false
 XH: ∀i,i<c.commands.length→qz c (i:Int)=0
theorem XI{c:aN}(h:py c=0):pA c:=by
 unfold py at h
 dsimp only at h
 obtain⟨_,h⟩:=mn (by decide) h
 obtain⟨hw,h⟩:=mn (by decide) h
 simp only[toNat_cast]at h
 obtain⟨a6,h⟩:=(ti (e:=fun i=>bif(kE (c.attrs.getD i (aE .Attr)) != 0)then kE (c.attrs.getD i (aE .Attr))else bif(cB (fun j=>decide ((c.attrs.getD j (aE .Attr)).name=(c.attrs.getD i (aE .Attr)).name)) i).isSome then 9 else 0) fun i hi=>by
  rw[rS,List.length_take,Nat.min_eq_left (Nat.le_of_lt hi),Bf (fun a:Attr=>a.name)]
  cases aV:(kE (c.attrs.getD i (aE .Attr)) != 0)with
  |true=>simp only[cond_true,aV]
  |false=>
   simp only[cond_false]
   cases (cB (fun j=>decide ((c.attrs.getD j (aE .Attr)).name=(c.attrs.getD i (aE .Attr)).name)) i).isSome<;>rfl).1 h
 obtain⟨hc,_⟩:=(ti (e:=fun i=>qz c (i:Int)) fun i hi=>rfl).1 h
 refine⟨hw,fun i hi=>?_,hc⟩
 obtain⟨aa,ae⟩:=vr (a6 i hi)
 exact⟨aa,(mn (by decide) ae).1⟩
theorem pA.enum{c:aN}(h:pA c): ∀a∈c.attrs,a.enum.length≤64:=fun a a6=>by
 obtain⟨j,af,rfl⟩:=List.mem_iff_getElem.1 a6
 have:=(h.attrs j af).1
 rw[List.getD_eq_getElem?_getD,List.getElem?_eq_getElem af]at this
 exact Fc this
theorem XJ{q:Nat→Bool}{n:Nat}(h:(cB q n).isSome=false): ∀j,j<n→q j=false:=by
 cases hf:cB q n with
 |none=>exact pv hf
 |some i=>rw[hf]at h;cases h
theorem pA.XK{c:aN}(h:pA c): ∀d∈c.commands,d.gC.length≤12:=fun d hd=>by
 obtain⟨j,af,rfl⟩:=List.mem_iff_getElem.1 hd
 have hw:=h.wide
 unfold qA at hw
 dsimp only at hw
 rw[toNat_cast,ib (p:=fun i=>decide ((List.length ((List.getD c.commands i (aE .Command)).gC):Int)>12)) (F:=fun _=>true) (fun i u=>by simp only[toNat_cast])]at hw
 cases hf:cB (fun i=>decide ((List.length ((List.getD c.commands i (aE .Command)).gC):Int)>12)) c.commands.length with
 |none=>
  have:=pv hf j af
  rw[List.getD_eq_getElem?_getD,List.getElem?_eq_getElem af]at this
  have:=of_decide_eq_false this
  simp only[Option.getD_some]at this;omega
 |some i=>rw[hf]at hw;cases hw
theorem XL{c:aN}{k:Nat}(h:qz c (k:Int)=0)(aj:k<c.commands.length):
 (((c.commands.getD k (aE .Command)).param.kind=0∧tf (c.commands.getD k (aE .Command)).param=true)∨kE (c.commands.getD k (aE .Command)).param=0)∧∀i,i<(c.commands.getD k (aE .Command)).gC.length→px c (c.commands.getD k (aE .Command)).param ((c.commands.getD k (aE .Command)).gC.getD i (aE .cS))=0:=by
 unfold qz at h
 simp only[toNat_cast]at h
 generalize c.commands.getD k (aE .Command)=d at h⊢
 obtain⟨_,h⟩:=mn (by decide) h
 rw[rS,List.length_take,Nat.min_eq_left (Nat.le_of_lt aj)]at h
 obtain⟨_,h⟩:=(ti (e:=fun i=>bif cC .eql (((c.commands.take k).getD i (aE .Command)).name) d.name then 9 else 0) fun i hi=>by
  cases cC .eql (((c.commands.take k).getD i (aE .Command)).name) d.name<;>rfl).1 h
 have iR: ∀{x:Int},x=Sum.elim (fun r=>r) (fun _=>0) (bo (fun(i9:Nat) (_:Unit)=>bif(px c d.param (d.gC.getD i9 (aE .cS)) != 0)then(.ret (px c d.param (d.gC.getD i9 (aE .cS))):Step Int Unit)else .bq ()) 0 d.gC.length ())→x=0→∀i,i<d.gC.length→px c d.param (d.gC.getD i (aE .cS))=0:=fun hx aP=>by
  rw[hx]at aP;exact((ti (e:=fun i=>px c d.param (d.gC.getD i (aE .cS))) fun i hi=>rfl).1 aP).1
 cases ak:(d.param.kind==0)with
 |true=>
  rw[ak,cond_true]at h;obtain⟨aa,ae⟩:=mn (by decide) h
  exact⟨.inl ⟨by simpa using ak,by simpa using aa⟩,iR rfl ae⟩
 |false=>
  rw[ak,cond_false]at h;obtain⟨aa,ae⟩:=vr h;exact⟨.inr aa,iR rfl ae⟩
theorem pA.par{c:aN}(h:pA c): ∀d∈c.commands,d.param.enum.length≤64:=fun d hd=>by
 obtain⟨j,af,rfl⟩:=List.mem_iff_getElem.1 hd
 have:=(XL (h.XH j af) af).1
 rw[List.getD_eq_getElem?_getD,List.getElem?_eq_getElem af]at this
 simp only[Option.getD_some]at this
 rcases this with⟨_,ae⟩|ae
 ·unfold tf at ae
  simp only[Bool.and_eq_true,beq_iff_eq]at ae;omega
 ·exact Fc ae
theorem Bg{l:List aN}(h:pz l=0): ∀i,i<l.length→pA (l.getD i (aE .aN))∧∀j,j<i→(l.getD j (aE .aN)).name≠(l.getD i (aE .aN)).name:=by
 unfold pz at h
 dsimp only at h
 obtain⟨_,h⟩:=mn (by decide) h
 simp only[toNat_cast]at h
 obtain⟨a6,_⟩:=(ti (e:=fun i=>bif(py (l.getD i (aE .aN)) != 0)then py (l.getD i (aE .aN))else bif(cB (fun j=>decide ((l.getD j (aE .aN)).name=(l.getD i (aE .aN)).name)) i).isSome then 9 else 0) fun i hi=>by
  rw[rS,List.length_take,Nat.min_eq_left (Nat.le_of_lt hi),Bf (fun a:aN=>a.name)]
  cases aV:(py (l.getD i (aE .aN)) != 0)with
  |true=>simp only[cond_true,aV]
  |false=>
   simp only[cond_false]
   cases (cB (fun j=>decide ((l.getD j (aE .aN)).name=(l.getD i (aE .aN)).name)) i).isSome<;>rfl).1 h
 intro i hi
 obtain⟨aa,ae⟩:=vr (a6 i hi)
 exact⟨XI aa,fun j af=>of_decide_eq_false (XJ (mn (by decide) ae).1 j af)⟩
end Go.aK
namespace Go.aK
open Go Go.eO
def Bh(l:List aN):Prop:=∀i,i<l.length→∀j,j<i→(l.getD j (aE .aN)).name≠(l.getD i (aE .aN)).name
theorem Fm{l:List aN}(h:pz l=0):Bh l:=fun i hi=>(Bg h i hi).2
theorem XM{l:List aN}{x:ByteArray}:(hO (l.map fun c=>(c.name,c)) x=none∧∀c∈l,c.name≠x)∨∃(j:Nat) (c:aN),hO (l.map fun c=>(c.name,c)) x=some c∧l[j]? =some c∧c.name=x∧∀(i:Nat) (d:aN),i<j→l[i]? =some d→d.name≠x:=by
 induction l with
 |nil=>exact .inl ⟨rfl,by simp⟩
 |cons e r aZ=>
  by_cases he:e.name=x
  ·exact .inr ⟨0,e,by simp[hO,he],rfl,he,fun i d hi=>absurd hi (by omega)⟩
  ·rcases aZ with⟨aa,ae⟩|⟨j,c,aa,ae,av,aQ⟩
   ·exact .inl ⟨by simpa[hO,he]using aa,fun c hc=>by rcases List.mem_cons.1 hc with rfl|hc;exact he;exact ae c hc⟩
   ·refine .inr ⟨j+1,c,by simpa[hO,he]using aa,by simpa using ae,av,fun i d hi hd=>?_⟩
    cases i with
    |zero=>simp at hd;subst hd;exact he
    |succ i=>exact aQ i d (by omega) (by simpa using hd)
theorem m3{α:Type}{l:List α}{i:Nat}{a d:α}(h:l[i]? =some a):l.getD i d=a:=by
 rw[List.getD_eq_getElem?_getD,h];rfl
theorem Og{α:Type}{l:List α}{i:Nat}{a:α}(h:l[i]? =some a):i<l.length:=(List.getElem?_eq_some_iff.1 h).1
theorem XN(l:List aN)(x:ByteArray):hO (l.map fun c=>(c.name,c)) x=(cB (fun i=>decide ((l.getD i (aE .aN)).name=x)) l.length).map fun i=>l.getD i (aE .aN):=by
 rcases XM (l:=l) (x:=x)with⟨aa,ae⟩|⟨j,c,aa,ae,av,aQ⟩
 ·rw[aa,xI fun j af=>decide_eq_false (ae _ (A6 af))]
  rfl
 ·rw[aa,uY (Og ae) (by rw[m3 ae];exact decide_eq_true av) fun i hi=>by
   have ar:i<l.length:=Nat.lt_trans hi (Og ae)
   have:=aQ i _ hi (List.getElem?_eq_getElem ar)
   rw[m3 (List.getElem?_eq_getElem ar)]
   exact decide_eq_false this]
  show some c=some (l.getD j (aE .aN));rw[m3 ae]
theorem XO{l:List aN}{c:aN}(h: ∀d∈l,d.name≠c.name):iS (l.map fun c=>(c.name,c)) c.name c=(l++[c]).map fun c=>(c.name,c):=by
 induction l with
 |nil=>rfl
 |cons e r aZ=>
  have he:e.name≠c.name:=h e (by simp)
  simp only[List.map_cons,List.cons_append,iS,if_neg he,aZ fun d hd=>h d (by simp[hd])]
theorem Oh{R A:Type}{b:Nat→A→Step R A}(s:Nat→A){n:Nat}(ad: ∀i,i<n→b i (s i)= .bq (s (i+1))): ∀(m k:Nat),k+m=n→bo b k m (s k)= .inr (s n)
 |0,k,h=>by rw[show k=n by omega];rfl
 |m+1,k,h=>by
  unfold bo;rw[ad k (by omega)]
  exact Oh s ad m (k+1) (by omega)
theorem XP{h:Home}(hd:Bh h.bH):kh h=h.bH.map fun c=>(c.name,c):=by
 unfold kh
 dsimp only
 rw[toNat_cast,show([]:List (ByteArray × aN))=(h.bH.take 0).map fun c=>(c.name,c)from rfl,Oh (fun k=>(h.bH.take k).map fun c=>(c.name,c)) (n:=h.bH.length) (fun i hi=>?_) _ 0 (by omega)]
 ·show(h.bH.take h.bH.length).map _=_
  rw[List.take_length]
 ·rw[toNat_cast]
  show Step.bq (iS ((h.bH.take i).map fun c=>(c.name,c)) (h.bH.getD i (aE .aN)).name (h.bH.getD i (aE .aN)))=_;rw[XO fun d hm=>?_]
  ·rw[List.take_succ_eq_append_getElem hi,m3 (List.getElem?_eq_getElem hi)]
  ·obtain⟨j,af,XQ⟩:=Nt.1 hm
   have:=hd i hi j af
   rw[m3 XQ]at this;exact this
theorem look_eq{h:Home}(hd:Bh h.bH)(x:ByteArray):jw .str (kh h) x=(cB (fun i=>decide ((h.bH.getD i (aE .aN)).name=x)) h.bH.length).map fun i=>h.bH.getD i (aE .aN):=by
 rw[XP hd]
 exact XN _ _
theorem XR(h:Home)(x:ByteArray):tj h x=match cB (fun i=>decide ((h.bH.getD i (aE .aN)).name=x)) h.bH.length with|some i=>(i:Int)|none=> -1:=by
 unfold tj
 dsimp only
 rw[toNat_cast,ib (p:=fun i=>decide ((h.bH.getD i (aE .aN)).name=x)) (F:=fun i=>(i:Int)) (fun i u=>by simp only[nW,toNat_cast])]
 all_goals cases cB (fun i=>decide ((h.bH.getD i (aE .aN)).name=x)) h.bH.length<;>rfl
theorem XS{h:Home}(hd:Bh h.bH)(d:bR):tk h d=rV d (kh h):=by
 unfold tk rV
 dsimp only
 refine congrArg (cond _ 3) ?_
 refine el (fun i a _=>?_) fun _=>rfl
 rw[look_eq hd,XR,Xp]
 unfold qy
 rw[toNat_cast]
 cases hf:cB (fun j=>decide ((h.bH.getD j (aE .aN)).name=d.bH.getD i (aE .str))) h.bH.length with
 |none=>rfl
 |some j=>
  dsimp only;rw[decide_eq_false (show ¬(j:Int)<0 by omega),toNat_cast]
  rfl
theorem XT{q:Nat→Bool}{n:Nat}:(cB q (n+1)).isSome=((cB q n).isSome||q n):=by
 cases h:cB q n with
 |some i=>
  obtain⟨aa,ae,av⟩:=lO h;rw[uY (by omega) ae av]
  rfl
 |none=>
  have h:=pv h
  cases aJ:q n with
  |true=>rw[uY (Nat.lt_succ_self n) aJ h];rfl
  |false=>
   rw[xI fun j af=>?_]
   ·rfl
   ·by_cases mo:j=n
    ·rw[mo];exact aJ
    ·exact h j (by omega)
theorem XU{K V:Type}[DecidableEq K](l:List (K × V))(k x:K)(v:V):hO (iS l k v) x=if k=x then some v else hO l x:=by
 induction l with
 |nil=>simp[iS,hO]
 |cons p r aZ=>
  obtain⟨q,w⟩:=p
  by_cases aJ:q=k
  ·subst aJ
   by_cases hx:q=x<;>simp[iS,hO,hx]
  ·by_cases hx:q=x
   ·subst hx
    simp[iS,hO,aJ,Ne.symm aJ]
   ·simp only[iS,if_neg aJ,hO,if_neg hx,aZ]
theorem Oi{R A:Type}{b:Nat→A→Step R A}{c:Nat→Unit→Step R Unit}{n:Nat}(I:Nat→A→Prop)
 (h: ∀k a,k<n→I k a→(∃r,b k a= .ret r∧c k ()= .ret r)∨(∃bc,b k a= .bq bc∧c k ()= .bq ()∧I (k+1) bc)):
 ∀(m k:Nat) (a:A),k+m=n→I k a→(∃r,bo b k m a= .inl r∧bo c k m ()= .inl r)∨(∃bc,bo b k m a= .inr bc∧bo c k m ()= .inr ())
 |0,k,a,_,_=>.inr ⟨a,rfl,rfl⟩
 |m+1,k,a,aj,a6=>by
  rcases h k a (by omega) a6 with⟨r,aa,ae⟩|⟨bc,aa,ae,av⟩
  ·exact .inl ⟨r,by simp only[bo,aa],by simp only[bo,ae]⟩
  ·have:=Oi I h m (k+1) bc (by omega) av
   simpa only[bo,aa,ae]using this
theorem XV(d:bR):vt d= !((((((decide (d.id<1))||(decide (d.id>250)))||(decide (d.n7<0)))||(decide (d.n7>255)))||((!d.n8)&&(d.kF != 0)))||(d.n8&&((decide (d.kF<4))||(decide (d.kF>3600))))):=by
 unfold vt
 rw[Bool.eq_iff_iff]
 cases d.n8<;>simp only[cond_eq_ite]<;>split<;>simp_all<;>omega
theorem XW(h:Home):rW h=hP h:=by
 unfold rW hP
 rw[XG]
 dsimp only
 cases aa:(pz h.bH != 0)with
 |true=>rfl
 |false=>
  have hd:=Fm (lI aa)
  simp only[cond_false];refine congrArg (cond _ 3) ?_
  rw[toNat_cast]
  have key:=Oi (n:=h.bw.length) (fun k a=>∀x:Int,(hO a x).getD false=(cB (fun j=>decide ((h.bw.getD j (aE .bR)).gW=x)) k).isSome) (b:=fun(i8:Nat) (aW:(List (Int × Bool)))=>
   bif(!(vt (h.bw.getD i8 (aE .bR))))then Step.ret (2:Int)else bif((decide ((i8:Int)>0))&&(decide ((h.bw.getD i8 (aE .bR)).id≤((List.getD h.bw (Int.toNat (IntKind.wrap .i64 ((i8:Int)-(1:Int)))) (aE .bR)).id))))then .ret 14
   else bif((jw (.int .u64) aW (h.bw.getD i8 (aE .bR)).gW).getD false)then .ret 9 else bif(!(ih (h.bw.getD i8 (aE .bR)).room))then .ret 10 else bif(rV (h.bw.getD i8 (aE .bR)) (kh h) != 0)then .ret (rV (h.bw.getD i8 (aE .bR)) (kh h))else .bq (rX (.int .u64) aW (h.bw.getD i8 (aE .bR)).gW true))
   (c:=fun(i5:Nat) (_:Unit)=>bif(pB h (i5:Int) != 0)then .ret (pB h (i5:Int))else .bq ()) ?_ h.bw.length 0 ([]:List (Int × Bool)) (by omega) (fun x=>rfl)
  ·rcases key with⟨r,cb,a2⟩|⟨bc,cb,a2⟩
   ·simp only[toNat_cast]
    rw[cb,a2];rfl
   ·simp only[toNat_cast]
    rw[cb,a2];rfl
  ·intro k a aj bW
   unfold pB;dsimp only;rw[toNat_cast];generalize XX:h.bw.getD k (aE .bR)=d;rw[XV,Bool.not_not,xW,xV,XS hd];generalize ((((((decide (d.id<1))||(decide (d.id>250)))||(decide (d.n7<0)))||(decide (d.n7>255)))||((!d.n8)&&(d.kF != 0)))||(d.n8&&((decide (d.kF<4))||(decide (d.kF>3600)))))=A
   have h0:decide ((List.getD h.bw (Int.toNat (IntKind.wrap .i64 ((k:Int)-(1:Int)))) (aE .bR)).id≥d.id)=decide (d.id≤(List.getD h.bw (Int.toNat (IntKind.wrap .i64 ((k:Int)-(1:Int)))) (aE .bR)).id):=rfl
   rw[h0];generalize (decide ((k:Int)>0)&&decide (d.id≤(List.getD h.bw (Int.toNat (IntKind.wrap .i64 ((k:Int)-(1:Int)))) (aE .bR)).id))=O
   have iR:(jw (.int .u64) a d.gW).getD false=(cB (fun j=>decide ((h.bw.getD j (aE .bR)).gW=d.gW)) k).isSome:=bW d.gW
   rw[iR,ib (p:=fun j=>decide ((h.bw.getD j (aE .bR)).gW=d.gW)) (F:=fun _=>(9:Int)) (fun i u=>by simp only[toNat_cast]<;>rfl)]
   have step: ∀x:Int,(hO (iS (K:=Int) a d.gW true) x).getD false=(cB (fun j=>decide ((h.bw.getD j (aE .bR)).gW=x)) (k+1)).isSome:=fun x=>by
    rw[XU,XT,XX]
    by_cases hx:d.gW=x
    ·rw[if_pos hx,decide_eq_true hx,Bool.or_true]
     rfl
    ·rw[if_neg hx,decide_eq_false hx,Bool.or_false]
     exact bW x
   cases A with
   |true=>exact .inl ⟨2,rfl,rfl⟩
   |false=>
    cases O with
    |true=>exact .inl ⟨14,rfl,rfl⟩
    |false=>
     cases cB (fun j=>decide ((h.bw.getD j (aE .bR)).gW=d.gW)) k with
     |some j=>exact .inl ⟨9,rfl,rfl⟩
     |none=>
      cases valid d.room with
      |false=>exact .inl ⟨10,rfl,rfl⟩
      |true=>
       cases aV:(rV d (kh h) != 0)with
       |true=>exact .inl ⟨_,rfl,by simp only[Bool.not_true,cond_false,cond_true,aV]⟩
       |false=>exact .inr ⟨_,rfl,by simp only[Bool.not_true,cond_false,aV],step⟩
end Go.aK
namespace Go.aK
open Go Go.eO
theorem yb{h:Home}(aP:hP h=0):pz h.bH=0:=by
 unfold hP at aP
 exact(vr aP).1
theorem XY{h:Home}(aP:hP h=0)(x:ByteArray): ∀a∈((jw .str (kh h) x).getD (aE .aN)).attrs,a.enum.length≤64:=by
 rw[look_eq (Fm (yb aP))]
 cases hf:cB (fun i=>decide ((h.bH.getD i (aE .aN)).name=x)) h.bH.length with
 |none=>exact fun a a6=>by cases a6
 |some i=>exact(Bg (yb aP) i (lO hf).1).1.enum
theorem Fo(h:Home)(x:Int):lP h x=bif(hP h != 0)then(⟨0,0,0,false,0,⟨#[]⟩,[]⟩,false)else match cB (fun i=>(h.bw.getD i (aE .bR)).id==x) h.bw.length with|some i=>(h.bw.getD i (aE .bR),true)|none=>(⟨0,0,0,false,0,⟨#[]⟩,[]⟩,false):=by
 unfold lP
 dsimp only
 rw[toNat_cast,ib (p:=fun i=>(h.bw.getD i (aE .bR)).id==x) (F:=fun i=>(h.bw.getD i (aE .bR),true)) (fun i u=>by simp only[toNat_cast])]
 all_goals refine congrArg (cond _ _) ?_
 all_goals cases cB (fun i=>(h.bw.getD i (aE .bR)).id==x) h.bw.length<;>rfl
theorem XZ{h:Home}{x:Int}(ae:(lP h x).2=true):hP h=0:=by
 rw[Fo]at ae
 cases aV:(hP h != 0)with
 |true=>rw[aV]at ae;cases ae
 |false=>exact lI aV
theorem Oj(h:Home)(k:dr):Bi h k:=by
 have key: ∀v6:Int,(((!(lP h k.dev).2)||(decide (v6<0)))=false→xZ ((jw .str (kh h) k.dc).getD (aE .aN)) k.attr):=fun v6 aw=>by
  simp only[Bool.or_eq_false_iff,Bool.not_eq_false']at aw;exact Ob (XY (XZ aw.1) _)
 exact⟨Fh _ _,fun _=>key _,fun _=>key _⟩
theorem X0(h:Home)(q:b3):Bj h q:=by
 unfold Bj
 repeat' (first|exact Oj _ _|exact E9 _ _|intro _|refine And.intro ?_ ?_)
theorem X1(h:Home)(x:Int)(n:ByteArray):Fp h x n:=by
 refine⟨fun _ _=>True,trivial,fun i _ hi _=>⟨fun _=>⟨fun _=>?_,fun _=>trivial⟩,fun _=>⟨fun _=>?_,fun _=>trivial⟩⟩,fun _ _=>?_⟩
 all_goals
  exact fun _=>⟨fun _ _=>True,trivial,fun i _ hi _=>⟨fun _ _=>⟨by omega,by rw[toNat_cast]at hi;omega⟩,fun _=>trivial⟩,fun _ _ h=>absurd (of_decide_eq_false h) (by decide)⟩
theorem X2{c:aN}(hc:pA c)(x:ByteArray):Fq c x:=by
 refine⟨fun _ _=>True,trivial,fun i _ hi _=>⟨fun _=>?_,fun _=>trivial⟩⟩
 rw[toNat_cast]at hi
 have hm:=A6 (d:=aE .Command) hi
 rw[toNat_cast]
 exact⟨E7 (by have:=hc.par _ hm;omega),Xd (by have:=hc.XK _ hm;omega)⟩
noncomputable def yc(h:Home)(x:Int)(n:ByteArray):Nat→Bool:=fun i=>((h.bw.getD i (aE .bR)).id==x)&&jv (h.bw.getD i (aE .bR)).bH n
theorem X3(h:Home)(x:Int)(n:ByteArray):rY h x n=bif(cB (yc h x n) h.bw.length).isSome then(match cB (fun i=>decide ((h.bH.getD i (aE .aN)).name=n)) h.bH.length with|some i=>(h.bH.getD i (aE .aN),true)|none=>(⟨⟨#[]⟩,[],[],[]⟩,false))else(⟨⟨#[]⟩,[],[],[]⟩,false):=by
  unfold rY;dsimp only;rw[toNat_cast,toNat_cast]
  have kG: ∀v3:Int,0≤v3→(bif !(decide (v3≥0))then((⟨⟨#[]⟩,[],[],[]⟩:aN),false)else Sum.elim (fun r=>r) (fun _=>bif decide ((-1:Int)<0)then(⟨⟨#[]⟩,[],[],[]⟩,false)else(h.bH.getD (Int.toNat (-1)) (aE .aN),true))
      (bo (fun(i7:Nat) (_:Unit)=>bif(cC .eql ((List.getD h.bH (Int.toNat (i7:Int)) (aE .aN)).name) n)then(.ret (bif decide ((i7:Int)<0)then(⟨⟨#[]⟩,[],[],[]⟩,false)else(h.bH.getD (Int.toNat (i7:Int)) (aE .aN),true)):Step (aN × Bool) Unit)else .bq ()) 0 h.bH.length ()))=(match cB (fun i=>decide ((h.bH.getD i (aE .aN)).name=n)) h.bH.length with|some i=>(h.bH.getD i (aE .aN),true)|none=>(⟨⟨#[]⟩,[],[],[]⟩,false)):=fun v3 av=>by
    rw[decide_eq_true av,ib (p:=fun i=>decide ((h.bH.getD i (aE .aN)).name=n)) (F:=fun i=>(h.bH.getD i (aE .aN),true)) (fun i u=>by
      simp only[nW,toNat_cast]
      rw[decide_eq_false (show ¬(i:Int)<0 by omega),cond_false])]
    cases cB (fun i=>decide ((h.bH.getD i (aE .aN)).name=n)) h.bH.length<;>rfl
  rw[ib (p:=yc h x n) (F:=fun _=>(match cB (fun i=>decide ((h.bH.getD i (aE .aN)).name=n)) h.bH.length with|some i=>(h.bH.getD i (aE .aN),true)|none=>(⟨⟨#[]⟩,[],[],[]⟩,false))) (fun i u=>by
    unfold yc;simp only[toNat_cast]
    cases (h.bw.getD i (aE .bR)).id==x with
    |false=>rfl
    |true=>
      simp only[cond_true,Bool.true_and]
      cases jv (h.bw.getD i (aE .bR)).bH n with
      |false=>rfl
      |true=>
        simp only[cond_true]
        have:=kG (i:Int) (by omega)
        simp only[toNat_cast]at this
        rw[this])]
  cases cB (yc h x n) h.bw.length<;>rfl
theorem X4{h:Home}{x:Int}{n:ByteArray}(aP:hP h=0)(ae:(rY h x n).2=true):pA (rY h x n).1:=by
 rw[X3]at ae⊢
 cases aa:(cB (yc h x n) h.bw.length).isSome with
 |false=>rw[aa]at ae;cases ae
 |true=>
  rw[aa]at ae;simp only[cond_true]at ae⊢
  cases hf:cB (fun i=>decide ((h.bH.getD i (aE .aN)).name=n)) h.bH.length with
  |none=>rw[hf]at ae;cases ae
  |some i=>exact(Bg (yb aP) i (lO hf).1).1
theorem X5{h:Home}(aP:hP h=0)(q:b3):Fs h q:=by
 refine⟨X1 _ _ _,fun ae=>⟨X2 (X4 aP ?_) _,fun _ _=>E9 _ _⟩⟩
 cases av:(rY h q.key.dev q.key.dc).2 with
 |true=>rfl
 |false=>rw[av]at ae;cases ae
theorem Ok{h:Home}(aP:hP h=0)(q:b3):Bk h q:=by
 unfold Bk
 repeat' (first|exact X0 _ _|exact X5 aP _|exact qw _|intro _|refine And.intro ?_ ?_)
theorem X6(h:Home)(q:b3):Ft h q:=by
 refine⟨Fg h,fun aP _ _=>⟨fun _ _=>Ok (lI aP) q,fun _ _=>Ok (lI aP) q⟩⟩
end Go.aK
namespace Go.aK
open Go Go.eO
theorem X7{h:Home}(aP:hP h=0): ∀k,k<h.bw.length→pB h (k:Int)=0:=by
 rw[←XW]at aP
 unfold rW at aP
 dsimp only at aP
 obtain⟨_,aP⟩:=vr aP
 obtain⟨_,aP⟩:=mn (by decide) aP
 simp only[toNat_cast]at aP
 exact((ti (e:=fun i=>pB h (i:Int)) fun i hi=>rfl).1 aP).1
theorem X8{h:Home}(aP:hP h=0):h.bw.length≤20:=by
 unfold hP at aP
 dsimp only at aP
 obtain⟨_,aP⟩:=vr aP
 have:=of_decide_eq_false (mn (by decide) aP).1
 omega
theorem X9{h:Home}{k:Nat}(ad:k<1000000)(aV:pB h (k:Int)=0):(0<k→(h.bw.getD (k-1) (aE .bR)).id<(h.bw.getD k (aE .bR)).id)∧tk h (h.bw.getD k (aE .bR))=0:=by
 unfold pB at aV
 simp only[toNat_cast]at aV
 obtain⟨_,aV⟩:=mn (by decide) aV
 obtain⟨an,aV⟩:=mn (by decide) aV
 obtain⟨_,aV⟩:=(ti (e:=fun i=>bif((h.bw.getD i (aE .bR)).gW==(h.bw.getD k (aE .bR)).gW)then 9 else 0) fun i hi=>by
  cases ((h.bw.getD i (aE .bR)).gW==(h.bw.getD k (aE .bR)).gW)<;>rfl).1 aV
 obtain⟨_,aV⟩:=mn (by decide) aV
 refine⟨fun aj=>?_,aV⟩
 rw[decide_eq_true (show(k:Int)>0 by omega),Bool.true_and]at an
 have an:=of_decide_eq_false an
 rw[kg (by omega) (by omega),show((k:Int)-1).toNat=k-1 by omega]at an
 omega
end Go.aK
