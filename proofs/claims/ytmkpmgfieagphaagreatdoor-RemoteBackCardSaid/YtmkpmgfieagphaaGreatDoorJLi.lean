/- Numbers, texts, values, readers: the spec functions. Conditions: none. -/
import Derived.Test.YtmkpmgfieagphaaGreatDoorJTEk
import Derived.Laws.RangeString
import Derived.Laws.RangeAny
import Derived.Laws.BitsAllLaws
import Derived.Laws.DeepNot64
import Derived.Test.YtmkpmgfieagphaaGreatDoorJPm
namespace Go.aM
open Go Go.aM Go.eQ
def vF(n:Int)(sg:Int × (List Int)):Step Unit (Int × (List Int)):=
 match sg with
 |(sh,Of)=>(bif decide (sh≥128)then .br (sh.fdiv 128,(Of++[mM .u8 (IntKind.u8.wrap sh) 128]))else .cI (sh,Of))
def FJ(n:Int)(sg:Int × (List Int)):Int × (List Int):=Og (vF n) 10 sg
def gP(n:Int):ByteArray:=
 bytesOf ((FJ n (iV .u64 (IntKind.u64.wrap (IntKind.u64.wrap n*2)) (IntKind.u64.wrap (n.fdiv 9223372036854775808)),[])).2++[IntKind.u8.wrap ((FJ n (iV .u64 (IntKind.u64.wrap (IntKind.u64.wrap n*2)) (IntKind.u64.wrap (n.fdiv 9223372036854775808)),[])).1)])
def fj(s:ByteArray):ByteArray:=
 ((gP (s.size:Int))++s)
def si(s:ByteArray)(vG:Nat)(sg:Int):Step (Int × Int × Int) (Int):=
 match sg with
 |(sh)=>(match(s.data.toList)[vG]? with|some yj=>(bif((decide ((vG:Int)>0)&&((yj.toNat:Int)==0))||(((vG:Int)==9)&&decide ((yj.toNat:Int)>1)))then .ret (0,0,4)else(bif decide ((yj.toNat:Int)<128)then .ret (mM .u64 sh (IntKind.u64.wrap ((IntKind.u64.wrap (l3 .u8 (yj.toNat:Int) 127))*2^(min (IntKind.i64.wrap (7*(vG:Int))).toNat 64))),((vG+1:Nat):Int),0)else .br (mM .u64 sh (IntKind.u64.wrap ((IntKind.u64.wrap (l3 .u8 (yj.toNat:Int) 127))*2^(min (IntKind.i64.wrap (7*(vG:Int))).toNat 64))))))|none=>.br sg)
def Br(s:ByteArray)(sg:Int):(Int × Int × Int)⊕(Int):=bp (si s) 0 s.size sg
def jZ(s:ByteArray):Int × Int × Int:=
 (match(Br s (0))with| .inl Wp=>Wp| .inr (sh)=>(0,0,5))
def dJ(r:Rd):(Int):=
 (bif !r.made then 15 else r.err)
def cX(r:Rd):(Int × Rd):=
 (bif((dJ r) != 0)then(0,r)else(bif((((jZ r.rest).2).2) != 0)then(0,(⟨r.rest,(((jZ r.rest).2).2),r.made⟩:Rd))else(iV .i64 (IntKind.i64.wrap (((jZ r.rest).1).fdiv 2)) (IntKind.i64.wrap (0-IntKind.i64.wrap (l3 .u64 ((jZ r.rest).1) 1))),(⟨r.rest.extract ((((jZ r.rest).2).1).toNat) r.rest.size,r.err,r.made⟩:Rd))))
def fI(r:Rd)(n:Int):(Int × Rd):=
 (bif((dJ ((cX r).2)) != 0)then(0,((cX r).2))else(bif decide ((cX r).1<0)then(0,(⟨((cX r).2).rest,4,((cX r).2).made⟩:Rd))else(bif decide ((cX r).1>(if 0>n then 0 else n))then(0,(⟨((cX r).2).rest,3,((cX r).2).made⟩:Rd))else((cX r).1,((cX r).2)))))
def gX(r:Rd)(n:Int):(ByteArray × Rd):=
 (bif((dJ ((fI r n).2)) != 0)then(⟨#[]⟩,((fI r n).2))else(bif decide ((fI r n).1>(((((fI r n).2).rest).size:Nat):Int))then(⟨#[]⟩,(⟨((fI r n).2).rest,5,((fI r n).2).made⟩:Rd))else((((fI r n).2).rest).extract 0 (((fI r n).1).toNat),(⟨(((fI r n).2).rest).extract (((fI r n).1).toNat) (((fI r n).2).rest).size,((fI r n).2).err,((fI r n).2).made⟩:Rd))))
def pO(r:Rd)(e:Int):(Rd):=
 (bif((dJ r)==0)then(⟨r.rest,e,r.made⟩:Rd)else r)
def Bs(r:Rd):(Int):=
 (bif((dJ r) != 0)then 0 else(r.rest.size:Int))
def mN(r:Rd):(Int):=
 (bif decide ((Bs r)>0)then 23 else(dJ r))
def yk(n:Int):Bool:=
 (decide (n≥ -1099511627776)&&decide (n≤1099511627776))
def iW(v:cD):Int:=
 (bif(((v.kind==0)||(v.kind==4))||((v.kind==1)||((v.kind==2)||(v.kind==3))))then(bif !(bif((v.kind==0)||(v.kind==4))then(v.n==0)else(bif(v.kind==1)then((v.n==0)||(v.n==1))else(bif(v.kind==2)then yk v.n else(decide (v.n≥0)&&decide (v.n≤63)))))then 2 else(bif decide ((v.s.size:Int)>60)then 3 else(bif(!dw v.s (⟨#[]⟩)&&(v.kind != 4))then 4 else 0)))else 7)
def Bt(v:cD):Int:=
 (bif(((v.kind==0)||(v.kind==4))||((v.kind==1)||((v.kind==2)||(v.kind==3))))then(bif(decide (v.n<(bif(((v.kind==0)||(v.kind==4))||((v.kind==1)|| !(v.kind==2)))then 0 else -1099511627776))||decide (v.n>(bif((v.kind==0)||(v.kind==4))then 0 else(bif(v.kind==1)then 1 else(bif(v.kind==2)then 1099511627776 else 63)))))then 2 else(bif decide ((v.s.size:Int)>60)then 3 else(bif(!dw v.s (⟨#[]⟩)&&(v.kind != 4))then 4 else 0)))else 7)
def nE(v:cD):cD:=(bif(iW v != 0)then(⟨0,0,⟨#[]⟩⟩:cD)else v)
def lr(v:cD):ByteArray:=
 (bif(((nE v).kind==1)||(((nE v).kind==2)||((nE v).kind==3)))then((gP ((nE v).kind))++(gP ((nE v).n)))else(bif((nE v).kind==4)then((gP ((nE v).kind))++(fj ((nE v).s)))else gP ((nE v).kind)))
def tP(r:Rd):cD:=(bif(((cX r).1==1)||(((cX r).1==2)||((cX r).1==3)))then(⟨(cX r).1,(cX ((cX r).2)).1,⟨#[]⟩⟩:cD)else(bif((cX r).1==4)then(⟨(cX r).1,0,(gX ((cX r).2) 60).1⟩:cD)else(⟨(cX r).1,0,⟨#[]⟩⟩:cD)))
def tQ(r:Rd):Rd:=(bif(((cX r).1==1)||(((cX r).1==2)||((cX r).1==3)))then((cX ((cX r).2)).2)else(bif((cX r).1==4)then((gX ((cX r).2) 60).2)else((cX r).2)))
def tR(r:Rd):Rd:=(bif(iW (tP r) != 0)then(pO (tQ r) 4)else(tQ r))
def oA(r:Rd):(cD × Rd):=
 (bif((dJ (tR r)) != 0)then((⟨0,0,⟨#[]⟩⟩:cD),(tR r))else((tP r),(tR r)))
def Oh(s:ByteArray):Rd:=(⟨s,0,true⟩:Rd)
abbrev fO(s:ByteArray):Rd:=⟨s,0,true⟩
open Classical in
theorem Wq{a:Int}(h:(a != 0)=false):a=0:=by simpa using h
theorem Wr{α:Type}{l:List α}{k:Nat}{x:α}:x∈l.take k↔∃i,i<k∧l[i]? =some x:=by
 rw[List.mem_iff_getElem?]
 constructor
 ·rintro⟨i,hi⟩
  rw[List.getElem?_take]at hi
  split at hi
  ·rename_i h;exact⟨i,h,hi⟩
  ·cases hi
 ·rintro⟨i,h,hi⟩
  exact⟨i,by rw[List.getElem?_take,if_pos h];exact hi⟩
theorem Ws{α:Type}{p q:Prop}[Decidable p][Decidable q]{a b:α}(h:p↔q):(if p then a else b)=if q then a else b:=by
 by_cases ak:p
 ·rw[if_pos ak,if_pos (h.1 ak)]
 ·rw[if_neg ak,if_neg fun aJ=>ak (h.2 aJ)]
theorem Oi{α:Type}{p q:Prop}[Decidable p][Decidable q]{a b:α}(h:p↔¬q):(if p then a else b)=if q then b else a:=by
 by_cases aJ:q
 ·rw[if_pos aJ,if_neg fun ak=>h.1 ak aJ]
 ·rw[if_neg aJ,if_pos (h.2 aJ)]
theorem Wt(v:cD):iW v=Bt v:=by
 unfold iW Bt yk
 simp only[cond_eq_ite]
 by_cases aH:v.kind=0
 ·simp[aH]
  apply Oi;omega
 by_cases aR:v.kind=4
 ·simp[aR]
  apply Oi;omega
 by_cases aa:v.kind=1
 ·simp[aa]
  apply Ws;omega
 by_cases ae:v.kind=2
 ·simp[ae]
 by_cases au:v.kind=3
 ·simp[au]
 ·simp[aH,aa,ae,au,aR]
end Go.aM
namespace Go.aM
open Go Go.aM Go.eQ
def fX:Nat→Nat→List Nat
 |0,u=>[u]
 |f+1,u=>if u<128 then[u]else(u%128+128)::fX f (u/ 128)
def fT(n:Int):Nat:=if 0≤n then(2*n).toNat else(-2*n-1).toNat
def qS(u:Nat):Int:=if u%2=0 then((u/ 2:Nat):Int)else -1-((u/ 2:Nat):Int)
theorem Wu(n:Int):qS (fT n)=n:=by
 unfold fT qS
 split<;>split<;>omega
theorem Wv(u:Nat):fT (qS u)=u:=by
 unfold fT qS
 split<;>split<;>omega
def gh(n:Int):Prop:= -9223372036854775808≤n∧n<9223372036854775808
theorem nF{n:Int}(h:gh n):fT n<18446744073709551616:=by
 unfold gh at h
 unfold fT
 split<;>omega
theorem Oj{u:Nat}(h:u<18446744073709551616):gh (qS u):=by
 unfold qS gh
 split<;>omega
theorem pP(n:Int):IntKind.u64.wrap n=n%18446744073709551616:=by simp[IntKind.wrap,IntKind.bits,IntKind.signed]
theorem FK(a b:Nat)(aY:a<18446744073709551616)(ad:b<18446744073709551616):iV .u64 (a:Int) (b:Int)=((a ^^^ b:Nat):Int):=u64_xor_nat a b aY ad
theorem Ww(a b:Nat)(aY:a<18446744073709551616)(ad:b<18446744073709551616):mM .u64 (a:Int) (b:Int)=((a ||| b:Nat):Int):=u64_or_nat a b aY ad
theorem Wx(a b:Nat)(aY:a<18446744073709551616)(ad:b<18446744073709551616):l3 .u64 (a:Int) (b:Int)=((a &&& b:Nat):Int):=u64_and_nat a b aY ad
theorem Wy(a b:Nat)(aY:a<256)(ad:b<256):mM .u8 (a:Int) (b:Int)=((a ||| b:Nat):Int):=u8_or_nat a b aY ad
theorem Wz(a b:Nat)(aY:a<256)(ad:b<256):l3 .u8 (a:Int) (b:Int)=((a &&& b:Nat):Int):=u8_and_nat a b aY ad
theorem Ok(a:Nat)(aY:a<18446744073709551616):a ^^^ 18446744073709551615=18446744073709551615-a:=by
 have h:(BitVec.ofNat 64 a ^^^ BitVec.allOnes 64)= ~~~(BitVec.ofNat 64 a):=by rw[BitVec.xor_allOnes]
 have ae:=congrArg BitVec.toNat h
 rw[BitVec.toNat_not,BitVec.toNat_xor,BitVec.toNat_ofNat,BitVec.toNat_allOnes,Nat.mod_eq_of_lt aY]at ae
 exact ae
theorem Ol{n:Int}(h:gh n):iV .u64 (IntKind.u64.wrap (IntKind.u64.wrap n*2)) (IntKind.u64.wrap (n.fdiv 9223372036854775808))=((fT n:Nat):Int):=by
 obtain⟨aa,ae⟩:=h
 rw[pP,pP,pP,Int.fdiv_eq_ediv_of_nonneg _ (by decide)]
 by_cases hn:0≤n
 ·have aC:n%18446744073709551616*2%18446744073709551616=((fT n:Nat):Int):=by unfold fT;rw[if_pos hn];omega
  have bf:n/ 9223372036854775808%18446744073709551616=((0:Nat):Int):=by omega
  rw[aC,bf,FK _ _ (nF ⟨aa,ae⟩) (by decide),Nat.xor_zero]
 ·have aC:n%18446744073709551616*2%18446744073709551616=((18446744073709551615-fT n:Nat):Int):=by unfold fT;rw[if_neg hn];omega
  have bf:n/ 9223372036854775808%18446744073709551616=((18446744073709551615:Nat):Int):=by omega
  have aQ:=nF ⟨aa,ae⟩
  rw[aC,bf,FK _ _ (by omega) (by decide),Ok _ (by omega)]
  omega
theorem Om{n:Int}(h:gh n):(bif decide (n<0)then iV .u64 18446744073709551615 (IntKind.u64.wrap (IntKind.u64.wrap n*2))else IntKind.u64.wrap (IntKind.u64.wrap n*2))=((fT n:Nat):Int):=by
 obtain⟨aa,ae⟩:=h
 rw[pP,pP]
 by_cases hn:0≤n
 ·have iX:decide (n<0)=false:=decide_eq_false (by omega)
  rw[iX];show n%18446744073709551616*2%18446744073709551616=((fT n:Nat):Int);unfold fT;rw[if_pos hn];omega
 ·have iX:decide (n<0)=true:=decide_eq_true (by omega)
  have aC:n%18446744073709551616*2%18446744073709551616=((18446744073709551615-fT n:Nat):Int):=by unfold fT;rw[if_neg hn];omega
  have aQ:=nF ⟨aa,ae⟩
  rw[iX,cond_true,aC,show(18446744073709551615:Int)=((18446744073709551615:Nat):Int)from rfl,FK _ _ (by decide) (by omega),Nat.xor_comm,Ok _ (by omega)]
  omega
theorem WA: ∀a,a<256→a ||| 128=a%128+128:=by decide+kernel
theorem On(u:Nat):mM .u8 (IntKind.u8.wrap (u:Int)) 128=((u%128+128:Nat):Int):=by
 have e:IntKind.u8.wrap (u:Int)=((u%256:Nat):Int):=by rw[IntKind.wrap_u8'];omega
 rw[e,show(128:Int)=((128:Nat):Int)from rfl,Wy _ _ (by omega) (by decide),WA _ (by omega)]
 omega
theorem WB(u:Nat):IntKind.u8.wrap (IntKind.u8.wrap ((u:Int).tmod 128)+128)=((u%128+128:Nat):Int):=by
 rw[Int.tmod_eq_emod_of_nonneg (by omega),IntKind.wrap_u8',IntKind.wrap_u8']
 omega
theorem FL{R A:Type}{b:A→Step R A}{f:Nat}{x y:A}(h:b x= .cI y):c0 b (f+1) x= .inr y:=by
 unfold c0
 rw[h]
theorem FM{R A:Type}{b:A→Step R A}{f:Nat}{x y:A}(h:b x= .br y):c0 b (f+1) x=c0 b f y:=by
 conv=>lhs;unfold c0
 rw[h]
theorem Oo(n:Int): ∀(f u:Nat) (acc:List Int),u<128*128^f→∃(x:Nat) (l:List Int),c0 (vF n) (f+1) ((u:Int),acc)= .inr ((x:Int),acc++l)∧(fX f u).map (fun b:Nat=>(b:Int))=l++[(x:Int)]∧x<128
 |f,u,acc,h=>by
  by_cases hu:u<128
  ·have ad:vF n ((u:Int),acc)= .cI ((u:Int),acc):=by
    unfold vF;dsimp only;rw[show decide ((u:Int)≥128)=false from decide_eq_false (by omega)]
    rfl
   refine⟨u,[],by rw[FL ad,List.append_nil],?_,hu⟩
   cases f with
   |zero=>rfl
   |succ f=>unfold fX;rw[if_pos hu];rfl
  ·have ad:vF n ((u:Int),acc)= .br (((u/ 128:Nat):Int),acc++[((u%128+128:Nat):Int)]):=by
    unfold vF;dsimp only;rw[show decide ((u:Int)≥128)=true from decide_eq_true (by omega),cond_true]
    rw[On,Int.fdiv_eq_ediv_of_nonneg _ (by decide),show(u:Int)/ 128=((u/ 128:Nat):Int)by omega]
   cases f with
   |zero=>exact absurd h (by simpa using hu)
   |succ f=>
    have ae:u/ 128<128*128^f:=by
     rw[Nat.pow_succ]at h;omega
    obtain⟨x,l,aC,bf,cg⟩:=Oo n f (u/ 128) (acc++[((u%128+128:Nat):Int)]) ae;refine⟨x,((u%128+128:Nat):Int)::l,?_,?_,cg⟩
    ·rw[FM ad,aC,List.append_assoc,List.singleton_append]
    ·unfold fX
     rw[if_neg hu,List.map_cons,bf,List.cons_append]
def iE(u:Nat):ByteArray:=bytesOf ((fX 9 u).map fun b:Nat=>(b:Int))
theorem Bu{n:Int}(h:gh n):gP n=iE (fT n):=by
 obtain⟨x,l,aC,bf,cg⟩:=Oo n 9 (fT n) [] (Nat.lt_of_lt_of_le (nF h) (by decide))
 unfold gP FJ iE
 rw[Ol h]
 unfold Og
 rw[aC,bf]
 show bytesOf (([]++l)++[IntKind.u8.wrap (x:Int)])=_
 rw[List.nil_append,IntKind.wrap_u8',show(x:Int)%256=(x:Int)by omega]
theorem Oq: ∀(l:List Int) (s:ByteArray),(l.foldl (fun r n=>r.push (UInt8.ofNat n.toNat)) s).data.toList=s.data.toList++l.map fun n=>UInt8.ofNat n.toNat
 |[],s=>by simp
 |n::l,s=>by
  rw[List.foldl_cons,Oq l,ByteArray.data_push,Array.toList_push,List.map_cons,List.append_assoc,List.singleton_append]
theorem Ot(l:List Int):(bytesOf l).data.toList=l.map fun n=>UInt8.ofNat n.toNat:=by
 unfold bytesOf
 rw[Oq]
 rfl
theorem tS(l:List Int):(bytesOf l).size=l.length:=by
 have h:=congrArg List.length (Ot l)
 rw[List.length_map,Array.length_toList]at h
 exact h
theorem yl{a b:ByteArray}(h:a.data.toList=b.data.toList):a=b:=ByteArray.ext (Array.toList_inj.1 h)
def oB(l:List Nat):List UInt8:=l.map UInt8.ofNat
theorem Ou(u:Nat):(iE u).data.toList=oB (fX 9 u):=by
 unfold iE oB
 rw[Ot,List.map_map]
 rfl
theorem WC(f u:Nat):0<(fX f u).length:=by
 cases f with
 |zero=>exact Nat.one_pos
 |succ f=>
  unfold fX
  split
  ·exact Nat.one_pos
  ·simp
theorem WD(f u:Nat):(fX f u).length≤f+1:=by
 induction f generalizing u with
 |zero=>exact Nat.le_refl _
 |succ f a1=>
  unfold fX
  split
  ·simp
  ·have:=a1 (u/ 128)
   simp only[List.length_cons];omega
theorem Bv(u:Nat):(iE u).size=(fX 9 u).length:=by
 unfold iE
 rw[tS,List.length_map]
theorem FN(k:Nat):128^k=2^(7*k):=by rw[Nat.pow_mul]
theorem WE{k acc c:Nat}(aj:k≤9)(hc:c<256)(aY:acc<128^k)(hd:c%128*128^k<18446744073709551616):
 mM .u64 (acc:Int) (IntKind.u64.wrap ((IntKind.u64.wrap (l3 .u8 (c:Int) 127))*2^(min (IntKind.i64.wrap (7*(k:Int))).toNat 64)))=((acc+c%128*128^k:Nat):Int):=by
 have aC:l3 .u8 (c:Int) 127=((c%128:Nat):Int):=by
  rw[show(127:Int)=((127:Nat):Int)from rfl,Wz _ _ hc (by decide),nat_mask7]
 have bf:min (IntKind.i64.wrap (7*(k:Int))).toNat 64=7*k:=by
  rw[pQ _ (by omega) (by omega)]
  omega
 have cg:IntKind.u64.wrap ((c%128:Nat):Int)=((c%128:Nat):Int):=by rw[pP];omega
 have ek:(((c%128:Nat):Int)*2^(7*k))=((c%128*128^k:Nat):Int):=by
  rw[FN];push_cast;rfl
 have ak:128^k≤128^9:=Nat.pow_le_pow_right (by decide) aj
 rw[aC,bf,cg,ek,pP]
 have kz:((c%128*128^k:Nat):Int)%18446744073709551616=((c%128*128^k:Nat):Int):=by omega
 rw[kz,Ww _ _ (by(have:(128:Nat)^9=9223372036854775808:=(by decide));omega) hd]
 rw[Nat.or_comm,nat_join (7*k) _ _ (by rw[FN];exact Nat.mul_mod_left _ _) (by rw[←FN];exact aY),Nat.add_comm]
theorem Ov(e:UInt8):e.toNat<256:=e.toNat_lt
theorem FO{s:ByteArray}{k:Nat}{e:UInt8}{acc:Nat}(he:s.data.toList[k]? =some e)(aj:k≤9)(aY:acc<128^k):si s k (acc:Int)=
 if(0<k∧e.toNat=0)∨(k=9∧1<e.toNat)then .ret (0,0,4)else if e.toNat<128 then .ret (((acc+e.toNat%128*128^k:Nat):Int),((k+1:Nat):Int),0)else .br ((acc+e.toNat%128*128^k:Nat):Int):=by
 have hu:=Ov e
 unfold si
 dsimp only
 rw[he]
 dsimp only
 rw[cond_eq_ite]
 by_cases aa:(0<k∧e.toNat=0)∨(k=9∧1<e.toNat)
 ·rw[if_pos aa,if_pos]
  simp only[Bool.or_eq_true,Bool.and_eq_true,decide_eq_true_eq,beq_iff_eq];omega
 ·have hd:e.toNat%128*128^k<18446744073709551616:=by
   rcases Nat.lt_or_ge k 9 with hv|hv
   ·have ak:128^k≤128^8:=Nat.pow_le_pow_right (by decide) (by omega)
    have:e.toNat%128*128^k≤127*128^8:=Nat.mul_le_mul (by omega) ak
    exact Nat.lt_of_le_of_lt this (by decide)
   ·have ym:k=9:=by omega
    subst ym
    have:e.toNat%128*128^9≤1*128^9:=Nat.mul_le_mul (by omega) (Nat.le_refl _)
    exact Nat.lt_of_le_of_lt this (by decide)
  rw[if_neg aa,if_neg (by
   simp only[Bool.or_eq_true,Bool.and_eq_true,decide_eq_true_eq,beq_iff_eq]
   omega),WE aj hu aY hd,cond_eq_ite]
  by_cases ae:e.toNat<128
  ·rw[if_pos ae,if_pos (by rw[decide_eq_true_eq];omega)]
  ·rw[if_neg ae,if_neg (by rw[decide_eq_true_eq];omega)]
theorem Ow{s:ByteArray}: ∀(f k acc u:Nat) (t:List UInt8) (m:Nat),k+f=9→s.data.toList.drop k=oB (fX f u)++t→acc<128^k→u<128*128^f→acc+u*128^k<18446744073709551616→(0<k→0<u)→(fX f u).length≤m→
 bp (si s) k m (acc:Int)= .inl (((acc+u*128^k:Nat):Int),((k+(fX f u).length:Nat):Int),0)
 |f,k,acc,u,t,m,mO,ar,aY,hu,pR,aH,hm=>by
  cases m with
  |zero=>have:=WC f u;omega
  |succ m=>
   have ak:0<128^k:=Nat.pow_pos (by decide)
   unfold bp
   by_cases yn:u<128
   ·have aw:fX f u=[u]:=by
     cases f with
     |zero=>rfl
     |succ f=>unfold fX;rw[if_pos yn]
    rw[aw]at ar⊢
    have he:s.data.toList[k]? =some (UInt8.ofNat u):=by
     have:=congrArg (fun l=>l[0]?) ar
     simpa[oB]using this
    have ad:=FO he (by omega) aY
    have hn:(UInt8.ofNat u).toNat=u:=by simp[UInt8.toNat_ofNat'];omega
    rw[hn]at ad
    have hv:k=9→u≤1:=by
     intro ym;subst ym
     have Bw:(128:Nat)^9=9223372036854775808:=by decide
     rw[Bw]at pR;omega
    rw[if_neg (by omega),if_pos yn,Nat.mod_eq_of_lt yn]at ad
    rw[ad];rfl
   ·cases f with
    |zero=>exact absurd (by simpa using hu) yn
    |succ f=>
     have aw:fX (f+1) u=(u%128+128)::fX f (u/ 128):=by
      conv=>lhs;unfold fX
      rw[if_neg yn]
     rw[aw]at ar hm⊢
     have he:s.data.toList[k]? =some (UInt8.ofNat (u%128+128)):=by
      have:=congrArg (fun l=>l[0]?) ar
      simpa[oB]using this
     have ad:=FO he (by omega) aY
     have hn:(UInt8.ofNat (u%128+128)).toNat=u%128+128:=by simp[UInt8.toNat_ofNat'];omega
     rw[hn,if_neg (by omega),if_neg (by omega),show(u%128+128)%128=u%128 by omega]at ad
     rw[ad]
     have hd:s.data.toList.drop (k+1)=oB (fX f (u/ 128))++t:=by
      have:=congrArg (List.drop 1) ar
      rw[List.drop_drop]at this;simpa[oB]using this
     have FP:128^(k+1)=128*128^k:=by rw[Nat.pow_succ,Nat.mul_comm]
     have sj:acc+u%128*128^k+u/ 128*128^(k+1)=acc+u*128^k:=by
      rw[FP]
      have:u/ 128*(128*128^k)=(u/ 128*128)*128^k:=by rw[Nat.mul_assoc]
      rw[this,Nat.add_assoc,←Nat.add_mul]
      congr 2
      omega
     have vH:acc+u%128*128^k<128^(k+1):=by
      have:u%128*128^k≤127*128^k:=Nat.mul_le_mul (by omega) (Nat.le_refl _)
      omega
     have:=Ow f (k+1) (acc+u%128*128^k) (u/ 128) t m (by omega) hd vH (by rw[Nat.pow_succ]at hu;omega) (by rw[sj];exact pR) (fun _=>by omega) (by simp only[List.length_cons]at hm;omega)
     dsimp only;rw[this,sj,List.length_cons]
     congr 3
     congr 1
     omega
theorem Ox{s:ByteArray}: ∀(m k acc:Nat) (U N:Int),k+m=s.size→acc<128^k→k≤9→bp (si s) k m (acc:Int)= .inl (U,N,0)→
 ∃(u:Nat) (t:List UInt8),U=((acc+u*128^k:Nat):Int)∧s.data.toList.drop k=oB (fX (9-k) u)++t∧N=((k+(fX (9-k) u).length:Nat):Int)∧(0<k→0<u)∧acc+u*128^k<18446744073709551616
 |0,k,acc,U,N,_,_,_,h=>by simp[bp]at h
 |m+1,k,acc,U,N,ai,aY,aj,h=>by
  have bI:k<s.data.toList.length:=by
   have:s.data.toList.length=s.size:=rfl
   omega
  obtain⟨e,he⟩: ∃e,s.data.toList[k]? =some e:=⟨_,List.getElem?_eq_getElem bI⟩
  have Oy:s.data.toList.drop k=e::s.data.toList.drop (k+1):=by
   rw[List.drop_eq_getElem_cons bI]
   congr 1
   rw[List.getElem?_eq_getElem bI]at he
   exact Option.some.inj he
  have zin:=Ov e
  have FP:128^(k+1)=128*128^k:=by rw[Nat.pow_succ,Nat.mul_comm]
  have zio:128^k≤128^9:=Nat.pow_le_pow_right (by decide) aj
  have Bw:(128:Nat)^9=9223372036854775808:=by decide
  unfold bp at h;rw[FO he aj aY]at h
  split at h
  ·rename_i r af
   split at af
   ·cases af;cases h
   ·rename_i aJ
    split at af
    ·rename_i hc
     cases af;simp only[Sum.inl.injEq,Prod.mk.injEq]at h;obtain⟨rfl,rfl,_⟩:=h
     have aw:fX (9-k) e.toNat=[e.toNat]:=by
      rcases Nat.lt_or_ge k 9 with hv|hv
      ·obtain⟨f,hf⟩: ∃f,9-k=f+1:=⟨8-k,by omega⟩
       rw[hf];unfold fX;rw[if_pos hc]
      ·rw[show 9-k=0 by omega];rfl
     have pR:acc+e.toNat*128^k<18446744073709551616:=by
      rcases Nat.lt_or_ge k 9 with hv|hv
      ·have ak:128^k≤128^8:=Nat.pow_le_pow_right (by decide) (by omega)
       have ae:e.toNat*128^k≤127*128^8:=Nat.mul_le_mul (by omega) ak
       have qT:127*(128:Nat)^8=9151314442816847872:=by decide
       omega
      ·have ym:k=9:=by omega
       subst ym
       have:e.toNat*128^9≤1*128^9:=Nat.mul_le_mul (by omega) (Nat.le_refl _)
       omega
     refine⟨e.toNat,s.data.toList.drop (k+1),by rw[Nat.mod_eq_of_lt hc],?_,by rw[aw];rfl,fun aH=>by omega,pR⟩
     rw[aw,Oy];simp[oB]
    ·cases af
  ·rename_i a af
   split at af
   ·cases af
   ·split at af<;>cases af
  ·rename_i a af
   split at af
   ·cases af
   ·rename_i aJ
    split at af
    ·cases af
    ·rename_i hc
     cases af
     have ziq:k≤8:=by
      rcases Nat.lt_or_ge k 9 with hv|hv
      ·omega
      ·exact absurd (Or.inr ⟨by omega,by omega⟩) aJ
     have vH:acc+e.toNat%128*128^k<128^(k+1):=by
      have:e.toNat%128*128^k≤127*128^k:=Nat.mul_le_mul (by omega) (Nat.le_refl _)
      omega
     obtain⟨u,t,aa,ae,au,aR,bA⟩:=Ox m (k+1) (acc+e.toNat%128*128^k) U N (by omega) vH (by omega) h
     have zir:=aR (by omega)
     have sj:acc+e.toNat%128*128^k+u*128^(k+1)=acc+(e.toNat%128+u*128)*128^k:=by
      rw[FP,Nat.add_mul,Nat.add_assoc,Nat.mul_assoc]
     have aw:fX (9-k) (e.toNat%128+u*128)=e.toNat::fX (9-(k+1)) u:=by
      rw[show 9-k=(9-(k+1))+1 by omega]
      conv=>lhs;unfold fX
      rw[if_neg (by omega)]
      congr 1
      ·omega
      ·congr 1
       omega
     refine⟨e.toNat%128+u*128,t,by rw[aa,sj],?_,?_,fun _=>by omega,by rw[←sj];exact bA⟩
     ·rw[aw,Oy,ae]
      simp[oB]
     ·rw[aw,au,List.length_cons]
      congr 1
      omega
theorem WG{u:Nat}(h:u<18446744073709551616)(t:ByteArray):jZ (iE u++t)=((u:Int),(((iE u).size:Nat):Int),0):=by
 have ar:(iE u++t).data.toList.drop 0=oB (fX 9 u)++t.data.toList:=by
  rw[List.drop_zero,ByteArray.data_append,Array.toList_append,Ou]
 have hm:(fX 9 u).length≤(iE u++t).size:=by
  rw[ByteArray.size_append,Bv];omega
 have:=Ow 9 0 0 u t.data.toList (iE u++t).size rfl ar (by decide) (Nat.lt_of_lt_of_le h (by decide)) (by omega) (fun aH=>absurd aH (by decide)) hm
 unfold jZ Br
 rw[show(0:Int)=((0:Nat):Int)from rfl,this,Bv]
 simp
theorem Oz{s:ByteArray}{U N:Int}(h:jZ s=(U,N,0)): ∃(u:Nat) (t:ByteArray),U=(u:Int)∧s=iE u++t∧N=(((iE u).size:Nat):Int)∧u<18446744073709551616:=by
 unfold jZ at h
 split at h
 ·rename_i r af
  subst h;unfold Br at af;obtain⟨u,t,aa,ae,au,_,bA⟩:=Ox s.size 0 0 U N (by omega) (by decide) (by decide) af
  refine⟨u,⟨t.toArray⟩,by rw[aa];simp,yl ?_,by rw[au,Bv];simp,by omega⟩
  rw[ByteArray.data_append,Array.toList_append,Ou];simpa using ae
 ·simp at h
theorem WH(k:IntKind)(a b:Int):iV k a b=iV k b a:=by
 unfold iV
 rw[BitVec.xor_comm]
theorem WI(a:Nat)(h:a<9223372036854775808):iV .i64 (a:Int) 0=(a:Int):=by
 unfold iV
 have e:BitVec.ofInt IntKind.i64.bits (0:Int)=0#_:=rfl
 rw[e,BitVec.xor_zero]
 have:(BitVec.ofInt 64 (a:Int)).toNat=a:=ofInt_u64 a (by omega)
 show IntKind.i64.wrap (((BitVec.ofInt 64 (a:Int)).toNat:Nat):Int)=_
 rw[this,pQ _ (by omega) (by omega)]
theorem WJ(a:Nat)(h:a<9223372036854775808):iV .i64 (a:Int) (-1)= -1-(a:Int):=by
 rw[WH]
 exact i64_not a h
theorem OA{u:Nat}(h:u<18446744073709551616):iV .i64 (IntKind.i64.wrap ((u:Int).fdiv 2)) (IntKind.i64.wrap (0-IntKind.i64.wrap (l3 .u64 (u:Int) 1)))=qS u:=by
 have aC:IntKind.i64.wrap ((u:Int).fdiv 2)=((u/ 2:Nat):Int):=by
  rw[Int.fdiv_eq_ediv_of_nonneg _ (by decide),pQ _ (by omega) (by omega)]
  omega
 have bf:l3 .u64 (u:Int) 1=((u%2:Nat):Int):=by
  rw[show(1:Int)=((1:Nat):Int)from rfl,Wx _ _ h (by decide),nat_mask1]
 rw[aC,bf]
 unfold qS
 split
 ·rename_i aH
  rw[aH];exact WI _ (by omega)
 ·rename_i aH
  rw[show u%2=1 by omega]
  exact WJ _ (by omega)
theorem FQ(a t:ByteArray):(a++t).extract a.size (a++t).size=t:=by
 refine yl ?_
 rw[ByteArray.data_extract,Array.toList_extract,ByteArray.data_append,Array.toList_append,ByteArray.size_append]
 have aY:a.size=a.data.toList.length:=rfl
 have aI:t.size=t.data.toList.length:=rfl
 rw[aY,aI]
 simp[List.extract]
 exact List.take_of_length_le (Nat.le_refl _)
theorem WK(a t:ByteArray):(a++t).extract 0 a.size=a:=by
 refine yl ?_
 rw[ByteArray.data_extract,Array.toList_extract,ByteArray.data_append,Array.toList_append]
 have aY:a.size=a.data.toList.length:=rfl
 rw[aY]
 simp[List.extract]
theorem WL(s:ByteArray)(n:Nat)(h:n≤s.size):s=s.extract 0 n++s.extract n s.size:=by
 refine yl ?_
 rw[ByteArray.data_append,Array.toList_append,ByteArray.data_extract,ByteArray.data_extract,Array.toList_extract,Array.toList_extract]
 have ai:s.size=s.data.toList.length:=rfl
 rw[ai]
 simp[List.extract]
 rw[List.take_of_length_le (l:=List.drop n s.data.toList) (by rw[List.length_drop];exact Nat.le_refl _),List.take_append_drop]
structure tT {α:Type} (read:Rd→α × Rd) (write:α→ByteArray) (ok:α→Prop):Prop where
 enc: ∀(a:α) (t:ByteArray),ok a→read (fO (write a++t))=(a,fO t)
 dec: ∀(r:Rd),dJ (read r).2=0→∃(a:α) (t:ByteArray),r=fO (write a++t)∧ok a∧read r=(a,fO t)
theorem FR{r:Rd}(h:dJ r=0):r=fO r.rest:=by
 obtain⟨s,e,m⟩:=r
 unfold dJ at h
 cases m with
 |false=>cases h
 |true=>simp at h;rw[h]
theorem mP(s:ByteArray):dJ (fO s)=0:=rfl
theorem FT{r:Rd}(h:dJ r≠0):cX r=(0,r):=by
 unfold cX
 rw[show(dJ r != 0)=true by simpa using h]
 rfl
theorem oC:tT cX gP gh:=by
 refine⟨fun n t hn=>?_,fun r h=>?_⟩
 ·rw[Bu hn]
  unfold cX;rw[mP]
  try dsimp only
  rw[WG (nF hn)]
  try dsimp only
  rw[OA (nF hn),Wu,Int.toNat_natCast,FQ];rfl
 ·by_cases aH:dJ r=0
  ·rw[FR aH]at h⊢
   generalize r.rest=s at*;unfold cX at h⊢;rw[mP]at h⊢
   try dsimp only at h⊢
   rcases aw:jZ s with⟨U,N,E⟩
   rw[aw]at h
   try dsimp only at h⊢
   by_cases gQ:E=0
   ·subst gQ
    obtain⟨u,t,rfl,rfl,rfl,hu⟩:=Oz aw;refine⟨qS u,t,by rw[Bu (Oj hu),Wv],Oj hu,?_⟩
    rw[OA hu,Int.toNat_natCast,FQ];rfl
   ·rw[show(E != 0)=true by simpa using gQ]at h
    have:dJ (⟨s,E,true⟩:Rd)=0:=h
    exact absurd this gQ
  ·rw[FT aH]at h
   exact absurd h aH
theorem WM{r:Rd}(n:Int)(h:dJ r≠0):fI r n=(0,r):=by
 unfold fI
 rw[FT h,show(dJ r != 0)=true by simpa using h]
 rfl
theorem WN{n:Int}(hn:0≤n)(tU:n≤4611686018427387904):tT (fun r=>fI r n) gP (fun a=>0≤a∧a≤n):=by
 refine⟨fun a t aY=>?_,fun r h=>?_⟩
 ·unfold fI
  try dsimp only
  rw[oC.enc a t ⟨by omega,by omega⟩]
  try dsimp only
  rw[mP,decide_eq_false (show ¬a<0 by omega),if_neg (by omega),decide_eq_false (show ¬a>n by omega)]
  rfl
 ·by_cases aH:dJ (cX r).2=0
  ·obtain⟨a,t,rfl,bU,af⟩:=oC.dec r aH
   have hc:fI (fO (gP a++t)) n=(bif decide (a<0)then(0,(⟨t,4,true⟩:Rd))else(bif decide (a>n)then(0,(⟨t,3,true⟩:Rd))else(a,fO t))):=by
    unfold fI;rw[af,if_neg (by omega)]
    rfl
   try dsimp only at h⊢
   rw[hc]at h⊢
   by_cases aa:a<0
   ·rw[decide_eq_true aa]at h;cases h
   ·rw[decide_eq_false aa]at h⊢
    by_cases ae:a>n
    ·rw[decide_eq_true ae]at h;cases h
    ·rw[decide_eq_false ae]at h⊢
     exact⟨a,t,rfl,⟨by omega,by omega⟩,rfl⟩
  ·try dsimp only at h
   have:(fI r n).2=(cX r).2:=by
    unfold fI;rw[show(dJ (cX r).2 != 0)=true by simpa using aH]
    rfl
   rw[this]at h;exact absurd h aH
theorem WO{r:Rd}(n:Int)(h:dJ r≠0):gX r n=(⟨#[]⟩,r):=by
 unfold gX
 rw[WM n h,show(dJ r != 0)=true by simpa using h]
 rfl
theorem FU{n:Int}(hn:0≤n)(tU:n≤4611686018427387904):tT (fun r=>gX r n) fj (fun s=>(s.size:Int)≤n):=by
 have kO:=WN hn tU
 refine⟨fun s t ai=>?_,fun r h=>?_⟩
 ·have:=kO.enc (s.size:Int) (s++t) ⟨by omega,ai⟩
  try dsimp only at this⊢
  unfold gX fj;rw[ByteArray.append_assoc,this]
  try dsimp only
  rw[mP,decide_eq_false (show ¬(s.size:Int)>(((s++t).size:Nat):Int)by rw[ByteArray.size_append];omega),Int.toNat_natCast,FQ,WK]
  rfl
 ·try dsimp only at h⊢
  by_cases aH:dJ (fI r n).2=0
  ·obtain⟨a,t,rfl,⟨Bx,vH⟩,af⟩:=kO.dec r aH
   try dsimp only at af
   have hc:gX (fO (gP a++t)) n=(bif decide (a>(t.size:Int))then(⟨#[]⟩,(⟨t,5,true⟩:Rd))else(t.extract 0 a.toNat,fO (t.extract a.toNat t.size))):=by
    unfold gX;rw[af];rfl
   rw[hc]at h⊢
   by_cases aa:a>(t.size:Int)
   ·rw[decide_eq_true aa]at h;cases h
   ·rw[decide_eq_false aa]at h⊢
    have bP:(t.extract 0 a.toNat).size=a.toNat:=by
     rw[ByteArray.size_extract];omega
    refine⟨t.extract 0 a.toNat,t.extract a.toNat t.size,?_,by rw[bP];omega,rfl⟩
    unfold fj;rw[ByteArray.append_assoc,←WL t a.toNat (by omega),bP,Int.toNat_of_nonneg Bx]
  ·have:(gX r n).2=(fI r n).2:=by
    unfold gX;rw[show(dJ (fI r n).2 != 0)=true by simpa using aH]
    rfl
   rw[this]at h;exact absurd h aH
end Go.aM
namespace Go.aM
open Go Go.aM Go.eQ
theorem WQ{v:cD}(h:iW v=0):v.s.size≤60:=by
 unfold iW at h
 simp only[cond_eq_ite]at h
 repeat' split at h
 all_goals first
  |(cases h;done)
  |(rename_i aJ _;simp at aJ;omega)
  |(rename_i aJ;simp at aJ;omega)
theorem WR{a b:ByteArray}:dw a b=true↔a=b:=by rw[oy];simp
theorem FV{v:cD}(h:iW v=0):(v.kind=0∧v.n=0∧v.s=⟨#[]⟩)∨((v.kind=1∨v.kind=2∨v.kind=3)∧v.s=⟨#[]⟩∧ -1099511627776≤v.n∧v.n≤1099511627776)∨(v.kind=4∧v.n=0∧v.s.size≤60):=by
 have bP:=WQ h
 unfold iW at h
 cases dq:(((v.kind==0)||(v.kind==4))||((v.kind==1)||((v.kind==2)||(v.kind==3))))with
 |false=>rw[dq]at h;cases h
 |true=>
  rw[dq]at h
  cases hy:(bif((v.kind==0)||(v.kind==4))then(v.n==0)else(bif(v.kind==1)then((v.n==0)||(v.n==1))else(bif(v.kind==2)then yk v.n else(decide (v.n≥0)&&decide (v.n≤63)))))with
  |false=>rw[hy]at h;cases h
  |true=>
   rw[hy]at h;simp only[cond_true,Bool.not_true,cond_false]at h;simp only[cond_eq_ite]at h
   split at h
   ·cases h
   ·split at h
    ·cases h
    ·rename_i au
     have ai:v.kind≠4→v.s=⟨#[]⟩:=fun aj=>by
      simp only[Bool.and_eq_true,bne_iff_ne,ne_eq,not_and,Decidable.not_not,Bool.not_eq_true']at au
      cases aJ:dw v.s ⟨#[]⟩with
      |true=>exact WR.1 aJ
      |false=>exact absurd (au aJ) aj
     simp only[Bool.or_eq_true,beq_iff_eq]at dq
     rcases dq with (aH|aR)|aa|ae|au
     ·exact .inl ⟨aH,by simpa[aH]using hy,ai (by omega)⟩
     ·exact .inr (.inr ⟨aR,by simpa[aR]using hy,bP⟩)
     ·refine .inr (.inl ⟨.inl aa,ai (by omega),?_⟩)
      simp[aa]at hy;omega
     ·refine .inr (.inl ⟨.inr (.inl ae),ai (by omega),?_⟩)
      simp[ae,yk]at hy;omega
     ·refine .inr (.inl ⟨.inr (.inr au),ai (by omega),?_⟩)
      simp[au]at hy;omega
def hW(r:Rd):cD × Rd:=
 if(cX r).1=1∨(cX r).1=2∨(cX r).1=3 then(⟨(cX r).1,(cX (cX r).2).1,⟨#[]⟩⟩,(cX (cX r).2).2)
 else if(cX r).1=4 then(⟨(cX r).1,0,(gX (cX r).2 60).1⟩,(gX (cX r).2 60).2)else(⟨(cX r).1,0,⟨#[]⟩⟩,(cX r).2)
theorem OB(r:Rd):tP r=(hW r).1∧tQ r=(hW r).2:=by
 unfold tP tQ hW
 simp only[cond_eq_ite,Bool.or_eq_true,beq_iff_eq]
 split
 ·exact⟨rfl,rfl⟩
 ·split<;>exact⟨rfl,rfl⟩
theorem FW(r:Rd):oA r=if iW (hW r).1=0 then(if dJ (hW r).2=0 then hW r else(⟨0,0,⟨#[]⟩⟩,(hW r).2))else(⟨0,0,⟨#[]⟩⟩,pO (hW r).2 4):=by
 have hf: ∀r:Rd,dJ (pO r 4)≠0:=by
  intro r h;unfold pO at h
  by_cases aH:dJ r=0
  ·rw[show(dJ r==0)=true by simpa using aH]at h
   rw[FR aH]at h;cases h
  ·rw[show(dJ r==0)=false by simpa using aH]at h
   exact aH h
 unfold oA tR
 rw[(OB r).1,(OB r).2]
 by_cases aa:iW (hW r).1=0
 ·rw[if_pos aa,show(iW (hW r).1 != 0)=false by simpa using aa,cond_false]
  by_cases ae:dJ (hW r).2=0
  ·rw[if_pos ae,show(dJ (hW r).2 != 0)=false by simpa using ae]
   rfl
  ·rw[if_neg ae,show(dJ (hW r).2 != 0)=true by simpa using ae]
   rfl
 ·rw[if_neg aa,show(iW (hW r).1 != 0)=true by simpa using aa,cond_true,show(dJ (pO (hW r).2 4) != 0)=true by simpa using hf _]
  rfl
theorem put_eq{v:cD}(h:iW v=0):lr v=if v.kind=1∨v.kind=2∨v.kind=3 then gP v.kind++gP v.n else if v.kind=4 then gP v.kind++fj v.s else gP v.kind:=by
 have aa:nE v=v:=by
  unfold nE;rw[show(iW v != 0)=false by simpa using h]
  rfl
 unfold lr
 rw[aa]
 simp only[cond_eq_ite,Bool.or_eq_true,beq_iff_eq]
theorem OC:tT (fun r=>gX r 60) fj (fun s=>(s.size:Int)≤60):=FU (by decide) (by decide)
theorem By{n:Int}(aa: -1099511627776≤n)(ae:n≤1099511627776)(t:ByteArray):cX (fO (gP n++t))=(n,fO t):=oC.enc n t ⟨by omega,by omega⟩
theorem OD:tT oA lr (fun v=>iW v=0):=by
 refine⟨fun v t aw=>?_,fun r h=>?_⟩
 ·have WS:hW (fO (lr v++t))=(v,fO t):=by
   rw[put_eq aw];obtain⟨k,n,s⟩:=v
   rcases FV aw with⟨aH,aa,ae⟩|⟨aH,aa,ae,au⟩|⟨aH,aa,ae⟩
   ·try dsimp only at aH aa ae⊢
    subst aH aa ae;rw[if_neg (by decide),if_neg (by decide)]
    unfold hW;rw[By (by decide) (by decide)]
    try dsimp only
    rw[if_neg (by decide),if_neg (by decide)]
   ·try dsimp only at aH aa ae au⊢
    subst aa;rw[if_pos aH,ByteArray.append_assoc];unfold hW;rw[By (by omega) (by omega)]
    try dsimp only
    rw[if_pos aH,By ae au]
   ·try dsimp only at aH aa ae⊢
    subst aH aa;rw[if_neg (by decide),if_pos rfl,ByteArray.append_assoc]
    unfold hW;rw[By (by decide) (by decide)]
    try dsimp only
    rw[if_neg (by decide),if_pos rfl]
    have:=OC.enc s t (by omega)
    try dsimp only at this
    rw[this]
  rw[FW,WS,if_pos aw,if_pos (mP t)]
 ·rw[FW]at h
  split at h
  ·rename_i aw
   split at h
   ·rename_i he
    rw[FW,if_pos aw,if_pos he]
    have bU:dJ (cX r).2=0:=by
     by_cases aH:dJ (cX r).2=0
     ·exact aH
     ·exfalso
      unfold hW at he
      split at he
      ·rw[FT aH]at he;exact aH he
      ·split at he
       ·rw[WO _ aH]at he;exact aH he
       ·exact aH he
    obtain⟨k,t,rfl,aj,af⟩:=oC.dec r bU;unfold hW at aw he⊢;rw[af]at aw he⊢
    try dsimp only at aw he⊢
    by_cases au:k=1∨k=2∨k=3
    ·rw[if_pos au]at aw he⊢
     obtain⟨n,t2,aI,hn,jE⟩:=oC.dec _ he;cases aI;rw[jE]at aw⊢;refine⟨_,t2,?_,aw,rfl⟩
     rw[put_eq aw,if_pos au,ByteArray.append_assoc]
    ·rw[if_neg au]at aw he⊢
     by_cases aR:k=4
     ·rw[if_pos aR]at aw he⊢
      obtain⟨s,t2,aI,ai,jE⟩:=OC.dec _ he;cases aI
      try dsimp only at jE
      rw[jE]at aw⊢;refine⟨_,t2,?_,aw,rfl⟩
      rw[put_eq aw,if_neg au,if_pos aR,ByteArray.append_assoc]
     ·rw[if_neg aR]at aw he⊢
      refine⟨_,t,?_,aw,rfl⟩
      rw[put_eq aw,if_neg au,if_neg aR]
   ·rename_i he
    exact absurd h he
  ·exfalso
   unfold pO at h
   by_cases aH:dJ (hW r).2=0
   ·rw[show(dJ (hW r).2==0)=true by simpa using aH]at h
    rw[FR aH]at h;cases h
   ·rw[show(dJ (hW r).2==0)=false by simpa using aH]at h
    exact aH h
end Go.aM
namespace Go.aM
open Go Go.eQ
theorem WT(u:Nat):bD .shr .u64 (u:Int) 7=((u/ 128:Nat):Int):=by
 show(u:Int).fdiv (2^(min (7:Int).toNat 64))=_
 rw[show(2:Int)^(min (7:Int).toNat 64)=128 from rfl,Int.fdiv_eq_ediv_of_nonneg _ (by decide)]
 omega
theorem WU{u:Nat}(h:u<18446744073709551616):bD .quo .u64 (u:Int) 128=((u/ 128:Nat):Int):=by
 show IntKind.u64.wrap ((u:Int).tdiv 128)=_
 rw[Int.tdiv_eq_ediv_of_nonneg (by omega),pP]
 omega
def tV(R:Type)(c:Int × List Int):Step R (Int × List Int):=
 bif decide (c.1≥128)then .br (bD .shr .u64 c.1 7,List.append c.2 [bD .or .u8 (IntKind.wrap .u8 c.1) 128])else .cI (c.1,c.2)
def tW(R:Type)(c:Int × List Int):Step R (Int × List Int):=
 bif decide (c.1≥128)then .br (bD .quo .u64 c.1 128,List.append c.2 [IntKind.wrap .u8 (IntKind.wrap .u8 (bD .rem .u64 c.1 128)+128)])else .cI (c.1,c.2)
theorem WV(R:Type){u:Nat}(acc:List Int)(h:u<128):tV R ((u:Int),acc)= .cI ((u:Int),acc):=by
 unfold tV
 rw[show decide ((u:Int)≥128)=false from decide_eq_false (by omega)]
 rfl
theorem OE(R:Type){u:Nat}(acc:List Int)(h: ¬u<128):tV R ((u:Int),acc)= .br (((u/ 128:Nat):Int),acc++[((u%128+128:Nat):Int)]):=by
 unfold tV
 rw[show decide ((u:Int)≥128)=true from decide_eq_true (by omega),cond_true,WT]
 show Step.br (_,acc++[mM .u8 (IntKind.u8.wrap (u:Int)) 128])=_
 rw[On]
theorem WW(R:Type){u:Nat}(acc:List Int)(h:u<128):tW R ((u:Int),acc)= .cI ((u:Int),acc):=by
 unfold tW
 rw[show decide ((u:Int)≥128)=false from decide_eq_false (by omega)]
 rfl
theorem OF(R:Type){u:Nat}(acc:List Int)(h: ¬u<128)(ae:u<18446744073709551616):tW R ((u:Int),acc)= .br (((u/ 128:Nat):Int),acc++[((u%128+128:Nat):Int)]):=by
 unfold tW
 rw[show decide ((u:Int)≥128)=true from decide_eq_true (by omega),cond_true,WU ae]
 show Step.br (_,acc++[IntKind.u8.wrap (IntKind.u8.wrap ((u:Int).tmod 128)+128)])=_
 rw[WB]
theorem OG{R:Type}{b:Int × List Int→Step R (Int × List Int)}(ar: ∀(u:Nat) acc,u<128→b ((u:Int),acc)= .cI ((u:Int),acc))
 (ah: ∀(u:Nat) acc,¬u<128→u<18446744073709551616→b ((u:Int),acc)= .br (((u/ 128:Nat):Int),acc++[((u%128+128:Nat):Int)])):
 ∀(f u F:Nat) (acc:List Int),u<128*128^f→u<18446744073709551616→f<F→∃(x:Nat) (l:List Int),c0 b F ((u:Int),acc)= .inr ((x:Int),acc++l)∧(fX f u).map (fun b:Nat=>(b:Int))=l++[(x:Int)]∧x<128
 |f,u,0,acc,h,_,hF=>absurd hF (Nat.not_lt_zero _)
 |f,u,F+1,acc,h,pR,hF=>by
  by_cases hu:u<128
  ·refine⟨u,[],by rw[FL (ar u acc hu),List.append_nil],?_,hu⟩
   cases f with
   |zero=>rfl
   |succ f=>unfold fX;rw[if_pos hu];rfl
  ·cases f with
   |zero=>exact absurd h (by simpa using hu)
   |succ f=>
    have ae:u/ 128<128*128^f:=by
     rw[Nat.pow_succ]at h;omega
    obtain⟨x,l,aC,bf,cg⟩:=OG ar ah f (u/ 128) F (acc++[((u%128+128:Nat):Int)]) ae (by omega) (by omega)
    refine⟨x,((u%128+128:Nat):Int)::l,?_,?_,cg⟩
    ·rw[FM (ah u acc hu pR),aC,List.append_assoc,List.singleton_append]
    ·unfold fX
     rw[if_neg hu,List.map_cons,bf,List.cons_append]
theorem OH{R:Type}{b:Int × List Int→Step R (Int × List Int)}(ar: ∀(u:Nat) acc,u<128→b ((u:Int),acc)= .cI ((u:Int),acc))
 (ah: ∀(u:Nat) acc,¬u<128→u<18446744073709551616→b ((u:Int),acc)= .br (((u/ 128:Nat):Int),acc++[((u%128+128:Nat):Int)])){u:Nat}(pR:u<18446744073709551616):
 ∃(x:Nat) (l:List Int),c0 b dU ((u:Int),[])= .inr ((x:Int),l)∧bytesOf (List.append l [IntKind.wrap .u8 (x:Int)])=iE u:=by
 obtain⟨x,l,aC,bf,cg⟩:=OG ar ah 9 u dU [] (Nat.lt_of_lt_of_le pR (by decide)) pR (by decide)
 refine⟨x,l,aC,?_⟩
 unfold iE
 rw[bf,IntKind.wrap_u8',show(x:Int)%256=(x:Int)by omega]
 rfl
theorem OI{n:Int}(h:gh n):bD .xor .u64 (bD .shl .u64 (IntKind.wrap .u64 n) 1) (IntKind.wrap .u64 (bD .shr .i64 n 63))=((fT n:Nat):Int):=by
 have:bD .shr .i64 n 63=n.fdiv 9223372036854775808:=rfl
 rw[this]
 exact Ol h
theorem yo{n:Int}(h:gh n):fP n=iE (fT n):=by
 obtain⟨x,l,aC,bf⟩:=OH (R:=ByteArray) (b:=tV ByteArray) (fun u acc=>WV _ acc) (fun u acc h _=>OE _ acc h) (nF h)
 unfold fP
 rw[OI h]
 show Sum.elim _ _ (c0 (tV ByteArray) dU (((fT n:Nat):Int),[]))=_
 rw[aC]
 exact bf
theorem FX{n:Int}(h:gh n):j0 n=iE (fT n):=by
 obtain⟨x,l,aC,bf⟩:=OH (R:=ByteArray) (b:=tW ByteArray) (fun u acc=>WW _ acc) (fun u acc h ae=>OF _ acc h ae) (nF h)
 have aY:=Om h
 unfold j0
 dsimp only
 have key: ∀v:Int,v=((fT n:Nat):Int)→Sum.elim (fun r=>r) (fun bR:Int × List Int=>bytesOf (List.append bR.2 [IntKind.wrap .u8 bR.1])) (c0 (tW ByteArray) dU (v,[]))=iE (fT n):=by
  rintro v rfl
  rw[aC];exact bf
 cases hd:decide (n<0)with
 |true=>
  rw[hd,cond_true]at aY;exact key _ aY
 |false=>
  rw[hd,cond_false]at aY;exact key _ aY
theorem yp{u:Nat}:(iE u).size≤10:=by rw[Bv];exact WD 9 u
def qU(d:Int × List Int):Prop:=∃(u f:Nat),d.1=(u:Int)∧u<18446744073709551616∧u<128*128^f∧d.2.length+f≤9
theorem OJ{u:Nat}(h:u<18446744073709551616):qU ((u:Int),[]):=⟨u,9,rfl,h,Nat.lt_of_lt_of_le h (by decide),Nat.le_refl _⟩
theorem OK{u:Nat}{acc:List Int}(h:qU ((u:Int),acc))(hu: ¬u<128):qU (((u/ 128:Nat):Int),acc++[((u%128+128:Nat):Int)]):=by
 obtain⟨v,f,aa,ae,au,aR⟩:=h
 have:u=v:=by have:(u:Int)=v:=aa;omega
 subst this
 cases f with
 |zero=>exact absurd au (by simpa using hu)
 |succ f=>
  have aR:acc.length+(f+1)≤9:=aR
  exact⟨u/ 128,f,rfl,by omega,by rw[Nat.pow_succ]at au;omega,by show(acc++[_]).length+f≤9;rw[List.length_append];simp;omega⟩
theorem Bz{d:Int × List Int}(h:qU d):d.2.length≤9:=by
 obtain⟨_,f,_,_,_,aR⟩:=h
 omega
theorem OL{d:Int × List Int}(h:qU d): ∃(u:Nat) (acc:List Int),d=((u:Int),acc)∧u<18446744073709551616:=by
 obtain⟨u,_,aa,ae,_⟩:=h
 exact⟨u,d.2,by rw[←aa],ae⟩
theorem vI{n:Int}(h:gh n):oD n:=by
 unfold oD
 rw[OI h]
 refine⟨qU,fun d=>d.1.toNat,OJ (nF h),?_,fun d hd=>⟨fun hc=>?_,fun hc=>?_⟩⟩
 ·have:=nF h
  show(((fT n:Nat):Int)).toNat<dU;unfold dU;omega
 ·obtain⟨u,acc,rfl,hu⟩:=OL hd
  have ar:acc.length≤9:=Bz hd
  have hc: ¬u<128:=by have:=of_decide_eq_true hc;simp only at this;omega
  have ad:=OE Unit acc hc
  unfold tV at ad;rw[show decide ((u:Int)≥128)=true from decide_eq_true (by omega),cond_true]at ad
  have aC:=congrArg (fun s=>match s with|Step.br x=>x.1|_=>0) ad
  have bf:=congrArg (fun s=>match s with|Step.br x=>x.2|_=>[]) ad
  simp only at aC bf;refine⟨⟨?_,?_⟩,?_,?_⟩
  ·show acc.length+1≤maxLen
   unfold maxLen;omega
  ·show(acc.length+1)*1≤_
   omega
  ·show qU (bD .shr .u64 (u:Int) 7,List.append acc [bD .or .u8 (IntKind.wrap .u8 (u:Int)) 128])
   rw[aC,bf];exact OK hd hc
  ·show(bD .shr .u64 (u:Int) 7).toNat<(u:Int).toNat
   rw[aC];omega
 ·have ar:=Bz hd
  refine⟨?_,?_⟩
  ·show d.2.length+1≤maxLen
   unfold maxLen;omega
  ·show(d.2.length+1)*1≤_
   omega
theorem BA{n:Int}(h:gh n):pS n:=by
 have key: ∀v:Int,v=((fT n:Nat):Int)→∃(bx:(Int × (List Int))→Prop) (gY:(Int × (List Int))→Nat),bx (v,[])∧gY (v,[])<dU∧∀(d0:Int × (List Int)),bx d0→(
  ((decide (d0.1≥128))=true→(
   let v11:List Int:=([(IntKind.wrap .u8 ((IntKind.wrap .u8 (bD .rem .u64 d0.1 (128:Int)))+(128:Int)))]:List Int)
   (List.length d0.2+List.length v11≤maxLen∧(List.length d0.2+List.length v11)*1≤140737488355328)∧
   bx ((bD .quo .u64 d0.1 (128:Int)),(List.append d0.2 v11))∧gY ((bD .quo .u64 d0.1 (128:Int)),(List.append d0.2 v11))<gY d0))∧((decide (d0.1≥128))=false→(
   List.length d0.2+List.length ([IntKind.wrap .u8 d0.1]:List Int)≤maxLen∧(List.length d0.2+List.length ([IntKind.wrap .u8 d0.1]:List Int))*1≤140737488355328))):=by
   rintro v rfl
   refine⟨qU,fun d=>d.1.toNat,OJ (nF h),?_,fun d hd=>⟨fun hc=>?_,fun hc=>?_⟩⟩
   ·have:=nF h
    show(((fT n:Nat):Int)).toNat<dU;unfold dU;omega
   ·obtain⟨u,acc,rfl,hu⟩:=OL hd
    have ar:acc.length≤9:=Bz hd
    have hc: ¬u<128:=by have:=of_decide_eq_true hc;simp only at this;omega
    have ad:=OF Unit acc hc hu
    unfold tW at ad;rw[show decide ((u:Int)≥128)=true from decide_eq_true (by omega),cond_true]at ad
    have aC:=congrArg (fun s=>match s with|Step.br x=>x.1|_=>0) ad
    have bf:=congrArg (fun s=>match s with|Step.br x=>x.2|_=>[]) ad
    simp only at aC bf;refine⟨⟨?_,?_⟩,?_,?_⟩
    ·show acc.length+1≤maxLen
     unfold maxLen;omega
    ·show(acc.length+1)*1≤_
     omega
    ·show qU (bD .quo .u64 (u:Int) 128,List.append acc [IntKind.wrap .u8 (IntKind.wrap .u8 (bD .rem .u64 (u:Int) 128)+128)])
     rw[aC,bf];exact OK hd hc
    ·show(bD .quo .u64 (u:Int) 128).toNat<(u:Int).toNat
     rw[aC];omega
   ·have ar:=Bz hd
    refine⟨?_,?_⟩
    ·show d.2.length+1≤maxLen
     unfold maxLen;omega
    ·show(d.2.length+1)*1≤_
     omega
 have aY:=Om h
 unfold pS
 refine⟨fun hd=>?_,fun hd=>?_⟩
 ·rw[hd,cond_true]at aY
  exact key _ aY
 ·rw[hd,cond_false]at aY
  exact key _ aY
def eM(s:ByteArray):Prop:=s.size≤140737488351232
theorem eM.i64{s:ByteArray}(h:eM s):gh (s.size:Int):=by unfold eM at h;exact⟨by omega,by omega⟩
theorem BB{s:ByteArray}(h:eM s):hX s=iE (fT s.size)++s:=by
 unfold hX
 rw[yo h.i64]
 rfl
theorem WX{s:ByteArray}(h:eM s):qV s=iE (fT s.size)++s:=by
 unfold qV
 rw[FX h.i64]
 rfl
theorem vJ{s:ByteArray}(h:eM s):(hX s).size≤140737488351242:=by
 rw[BB h,ByteArray.size_append]
 have:=yp (u:=fT s.size)
 unfold eM at h
 omega
theorem yq{s:ByteArray}(h:eM s):sk s:=by
 refine⟨vI h.i64,?_⟩
 have:=yp (u:=fT s.size)
 rw[yo h.i64]
 unfold eM at h
 omega
theorem WY{s:ByteArray}(h:eM s):BC s:=by
 refine⟨BA h.i64,?_⟩
 have:=yp (u:=fT s.size)
 rw[FX h.i64]
 unfold eM at h
 omega
theorem WZ{s:ByteArray}(h:eM s):qV s=hX s:=by rw[WX h,BB h]
theorem FY{n:Int}(h:gh n):j0 n=fP n:=by rw[FX h,yo h]
theorem tX{n:Int}(h:gh n):fP n=gP n:=by rw[yo h,Bu h]
theorem yr{s:ByteArray}(h:eM s):hX s=fj s:=by
 unfold fj
 rw[BB h,Bu h.i64]
theorem l4{n:Int}(h:gh n):(fP n).size≤10:=by rw[yo h];exact yp
end Go.aM
namespace Go.aM
open Go Go.eQ
theorem OM(r:Rd)(n:Int):0≤(fI r n).1:=by
 unfold fI
 cases dq:((dJ ((cX r).2)) != 0)with
 |true=>exact Int.le_refl _
 |false=>
  simp only[cond_false]
  cases hy:decide ((cX r).1<0)with
  |true=>exact Int.le_refl _
  |false=>
   simp only[cond_false]
   have hy:=of_decide_eq_false hy
   cases kO:decide ((cX r).1>(if 0>n then 0 else n))with
   |true=>exact Int.le_refl _
   |false=>
    simp only[cond_false];omega
theorem vK(v:cD):iY v=iW v:=by
 unfold iY iW cq
 dsimp only
 have:sl v.n=yk v.n:=rfl
 rw[this]
 cases (v.kind==0)<;>cases (v.kind==4)<;>cases (v.kind==1)<;>cases (v.kind==2)<;>cases (v.kind==3)<;>rfl
theorem W0(v:cD):vL v=Bt v:=by
 unfold vL Bt cq
 dsimp only
 cases (v.kind==0)<;>cases (v.kind==4)<;>cases (v.kind==1)<;>cases (v.kind==2)<;>cases (v.kind==3)<;>rfl
theorem ON(v:cD):vL v=iY v:=by rw[W0,vK,Wt]
theorem qW(r:Rd):nG r=(r,dJ r):=by
 unfold nG dJ
 cases r.made<;>rfl
def dG(s:ByteArray):Prop:=s.size≤4611686018427387904
theorem OO{s:ByteArray}{k:Nat}(h:k<s.size):s.data.toList[k]? =some (s.data.toList.getD k 0)∧ez s (k:Int)=((s.data.toList.getD k 0).toNat:Int):=by
 have ar:k<s.data.toList.length:=h
 refine⟨by rw[List.getD_eq_getElem?_getD,List.getElem?_eq_getElem ar];rfl,?_⟩
 unfold ez
 rw[Int.toNat_natCast]
theorem OP{s:ByteArray}(h:dG s):yt s=jZ s:=by
 unfold dG at h
 unfold yt jZ Br
 dsimp only
 rw[Int.toNat_natCast,BD (b:=si s) (fun _ _=>True) s.size (fun i v hi _=>⟨?_,fun _ _=>trivial⟩) s.size 0 0 (Nat.zero_add _) trivial]
 ·cases bp (si s) 0 s.size 0<;>rfl
 ·obtain⟨aC,bf⟩:=OO hi
  unfold si;dsimp only;rw[aC,bf];dsimp only
  have hw:IntKind.wrap .i64 ((i:Int)+1)=((i+1:Nat):Int):=by rw[pQ _ (by omega) (by omega)];omega
  rw[hw];rfl
theorem nH{r:Rd}(h:dG r.rest):gq r=((cX r).2,(cX r).1):=by
 unfold gq cX
 rw[qW]
 dsimp only
 rw[OP h]
 cases (dJ r != 0)with
 |true=>rfl
 |false=>
  simp only[cond_false]
  cases ((jZ r.rest).2.2 != 0)<;>rfl
theorem OQ{s:ByteArray}{a b:Nat}(h:dG s):dG (s.extract a b):=by
 unfold dG at h⊢
 rw[ByteArray.size_extract]
 omega
theorem pT{r:Rd}(h:dG r.rest):dG (cX r).2.rest:=by
 unfold cX
 simp only[cond_eq_ite]
 repeat' split
 all_goals first|exact h|exact OQ h
theorem W1{r:Rd}{n:Int}(h:dG r.rest):dG (fI r n).2.rest:=by
 have:=pT h
 unfold fI
 simp only[cond_eq_ite]
 repeat' split
 all_goals exact this
theorem yu{r:Rd}{n:Int}(h:dG r.rest):dG (gX r n).2.rest:=by
 have:=W1 (n:=n) h
 unfold gX
 simp only[cond_eq_ite]
 repeat' split
 all_goals first|exact this|exact OQ this
theorem OR{r:Rd}{n:Int}(h:dG r.rest):yv r n=((fI r n).2,(fI r n).1):=by
 unfold yv fI
 rw[nH h]
 dsimp only
 rw[qW]
 simp only[cond_eq_ite]
 repeat' split
 all_goals first|rfl|(simp_all[cC.den])
theorem qX{r:Rd}{n:Int}(h:dG r.rest):hG r n=((gX r n).2,(gX r n).1):=by
 unfold hG gX
 rw[OR h]
 dsimp only
 rw[qW]
 simp only[cond_eq_ite]
 repeat' split
 all_goals rfl
theorem W2(r:Rd)(e:Int):BE r e=pO r e:=by
 unfold BE pO
 rw[qW]
theorem OS(r:Rd):(⟨r.rest,r.err,r.made⟩:Rd)=r:=rfl
theorem OT{r:Rd}(h:dG r.rest):tY r=((oA r).2,(oA r).1):=by
 have aa:=pT h
 unfold tY oA tR tP tQ
 rw[nH h]
 dsimp only
 rw[nH aa,qX aa]
 simp only[qW,W2,vK,OS]
 cases ((cX r).1==1)<;>cases ((cX r).1==2)<;>cases ((cX r).1==3)<;>cases ((cX r).1==4)<;>simp only[cond_true,cond_false,Bool.true_or,Bool.or_true,Bool.false_or,Bool.or_false,OS]<;>(cases (iW _ != 0)<;>simp only[cond_true,cond_false]<;>(cases (dJ _ != 0)<;>rfl))
theorem W3(r:Rd):(vM r).2=mN r:=by
 unfold vM FZ mN Bs
 rw[qW]
 dsimp only
 cases (dJ r != 0)<;>simp only[cond_true,cond_false]<;>rw[qW]<;>simp only[cond_eq_ite]<;>split<;>rfl
end Go.aM
namespace Go.aM
open Go Go.eQ
theorem W4{s:ByteArray}(h:dG s):F0 s:=by
 unfold dG at h
 refine⟨⟨by omega,by omega⟩,fun i _=>i≤9,Nat.zero_le _,fun i d _ hi=>?_⟩
 have hi:i≤9:=hi
 intro v5 hc
 refine⟨?_,fun mQ=>?_⟩
 ·show 0≤IntKind.wrap .i64 (7*(i:Int))
  rw[pQ _ (by omega) (by omega)]
  omega
 ·have mQ:=of_decide_eq_false mQ
  show i+1≤9
  rcases Nat.lt_or_ge i 9 with hv|hv
  ·exact hv
  ·have:i=9:=by omega
   subst this;simp only[Bool.or_eq_false_iff,Bool.and_eq_false_iff]at hc
   rcases hc.2 with h|h
   ·exact absurd h (by decide)
   ·have:=of_decide_eq_false h
    omega
theorem W5{s:ByteArray}(h:(jZ s).2.2=0):0≤(jZ s).2.1∧(jZ s).2.1≤(s.size:Int):=by
 obtain⟨u,t,aa,ae,au,aR⟩:=Oz (s:=s) (U:=(jZ s).1) (N:=(jZ s).2.1) (by rw[←h])
 rw[au]
 have:=congrArg ByteArray.size ae
 rw[ByteArray.size_append]at this
 omega
theorem oE{r:Rd}(h:dG r.rest):nI r:=by
 unfold nI
 rw[qW]
 intro v1 _
 refine⟨W4 h,fun hc=>?_⟩
 have hc:=Wq hc
 rw[OP h]at hc⊢
 exact W5 hc
theorem W6{r:Rd}{n:Int}(h:dG r.rest):F1 r n:=oE h
theorem sm{r:Rd}{n:Int}(h:dG r.rest):sn r n:=by
 refine⟨W6 h,?_⟩
 rw[OR h]
 show(_ != 0)=false→_
 rw[qW]
 intro _ hd
 have hd:=of_decide_eq_false hd
 have hn:=OM r n
 have hd: ¬(fI r n).1>((fI r n).2.rest.size:Int):=hd
 exact⟨⟨hn,by omega⟩,hn,by omega⟩
theorem W7{r:Rd}(h:dG r.rest):BF r:=by
 have aa:=pT h
 unfold BF
 rw[nH h]
 dsimp only
 refine⟨oE h,⟨fun _=>⟨fun _=>oE aa,fun _ _=>sm aa⟩,fun _=>⟨fun _=>⟨fun _=>oE aa,fun _ _=>sm aa⟩,fun _=>⟨fun _=>oE aa,fun _ _=>sm aa⟩⟩⟩⟩
theorem W8{r:Rd}{e:Int}(h:dG r.rest):dG (pO r e).rest:=by
 unfold pO
 cases (dJ r==0)<;>exact h
theorem W9{r:Rd}(h:dG r.rest):dG (oA r).2.rest:=by
 have aa:=pT h
 have ae:dG (tQ r).rest:=by
  unfold tQ;simp only[cond_eq_ite]
  repeat' split
  ·exact pT aa
  ·exact yu aa
  ·exact aa
 have au:dG (tR r).rest:=by
  unfold tR;simp only[cond_eq_ite]
  split
  ·exact W8 ae
  ·exact ae
 unfold oA
 simp only[cond_eq_ite]
 split<;>exact au
def j1(s:ByteArray):Int × Rd:=cX (Oh s)
def jF(s:ByteArray):Int × Rd:=cX (j1 s).2
def lu(s:ByteArray):Int × Rd:=cX (jF s).2
def lv(s:ByteArray):ByteArray × Rd:=gX (lu s).2 24
def lx(s:ByteArray):ByteArray × Rd:=gX (lv s).2 24
def ly(s:ByteArray):ByteArray × Rd:=gX (lx s).2 24
def mR(s:ByteArray):cD × Rd:=oA (ly s).2
def lz(s:ByteArray):ByteArray × Rd:=gX (mR s).2 20000
def gi(s:ByteArray):bK:=⟨(j1 s).1,(jF s).1,⟨(lu s).1,(lv s).1,(lx s).1⟩,(ly s).1,(mR s).1,(lz s).1⟩
def BG:bK:=⟨0,0,⟨0,⟨#[]⟩,⟨#[]⟩⟩,⟨#[]⟩,⟨0,0,⟨#[]⟩⟩,⟨#[]⟩⟩
def pM(s:ByteArray):bK × Int:=
 if mN (lz s).2≠0 then(BG,mN (lz s).2)else if(gi s).kind<1∨(gi s).kind>7 then(BG,7)else if(gi s).de<0∨(gi s).de>1099511627776 then(BG,2)else(gi s,0)
theorem OU{s:ByteArray}(h:dG s):dG (j1 s).2.rest∧dG (jF s).2.rest∧dG (lu s).2.rest∧dG (lv s).2.rest∧dG (lx s).2.rest∧dG (ly s).2.rest∧dG (mR s).2.rest:=by
 have aa:dG (j1 s).2.rest:=pT h
 have ae:dG (jF s).2.rest:=pT aa
 have au:dG (lu s).2.rest:=pT ae
 have aR:dG (lv s).2.rest:=yu au
 have bA:dG (lx s).2.rest:=yu aR
 have cB:dG (ly s).2.rest:=yu bA
 exact⟨aa,ae,au,aR,bA,cB,W9 cB⟩
theorem FH{s:ByteArray}(h:dG s):hE s=pM s:=by
 obtain⟨aa,ae,au,aR,bA,cB,dM⟩:=OU h
 have aC:gq ⟨s,0,true⟩=((j1 s).2,(j1 s).1):=nH (r:=⟨s,0,true⟩) h
 have bf:gq (j1 s).2=((jF s).2,(jF s).1):=nH aa
 have cg:gq (jF s).2=((lu s).2,(lu s).1):=nH ae
 have ek:hG (lu s).2 24=((lv s).2,(lv s).1):=qX au
 have kz:hG (lv s).2 24=((lx s).2,(lx s).1):=qX aR
 have mS:hG (lx s).2 24=((ly s).2,(ly s).1):=qX bA
 have pU:tY (ly s).2=((mR s).2,(mR s).1):=OT cB
 have qT:hG (mR s).2 20000=((lz s).2,(lz s).1):=qX dM
 unfold hE pM
 simp only[aC,bf,cg,ek,kz,mS,pU,qT,W3]
 unfold yw yx
 by_cases gQ:mN (lz s).2=0
 ·rw[gQ,if_neg (fun h=>h rfl)]
  simp only[bne_self_eq_false,cond_false];show(bif(bif(decide ((gi s).kind<1)||decide ((gi s).kind>7))then(7:Int)else 0) != 0 then _ else _)=_
  by_cases hK:(gi s).kind<1∨(gi s).kind>7
  ·rw[if_pos hK,show(decide ((gi s).kind<1)||decide ((gi s).kind>7))=true by simpa using hK]
   have:(decide ((j1 s).1<1)||decide ((j1 s).1>7))=true:=by have hK:(j1 s).1<1∨(j1 s).1>7:=hK;simpa using hK
   rw[this];rfl
  ·rw[if_neg hK,show(decide ((gi s).kind<1)||decide ((gi s).kind>7))=false by simp only[not_or]at hK;simp only[Bool.or_eq_false_iff,decide_eq_false_iff_not];exact hK]
   show(bif(bif(decide ((gi s).de<0)||decide ((gi s).de>1099511627776))then(2:Int)else 0) != 0 then _ else _)=_
   by_cases iZ:(gi s).de<0∨(gi s).de>1099511627776
   ·rw[if_pos iZ,show(decide ((gi s).de<0)||decide ((gi s).de>1099511627776))=true by simpa using iZ]
    have:(decide ((jF s).1<0)||decide ((jF s).1>1099511627776))=true:=by have iZ:(jF s).1<0∨(jF s).1>1099511627776:=iZ;simpa using iZ
    rw[this];rfl
   ·rw[if_neg iZ,show(decide ((gi s).de<0)||decide ((gi s).de>1099511627776))=false by simp only[not_or]at iZ;simp only[Bool.or_eq_false_iff,decide_eq_false_iff_not];exact iZ]
    rfl
 ·rw[if_pos gQ,show(mN (lz s).2 != 0)=true by simpa using gQ]
  simp only[cond_true];rfl
theorem FF{s:ByteArray}(h:dG s):tM s:=by
 obtain⟨aa,ae,au,aR,bA,cB,dM⟩:=OU h
 have aC:gq ⟨s,0,true⟩=((j1 s).2,(j1 s).1):=nH (r:=⟨s,0,true⟩) h
 have bf:gq (j1 s).2=((jF s).2,(jF s).1):=nH aa
 have cg:gq (jF s).2=((lu s).2,(lu s).1):=nH ae
 have ek:hG (lu s).2 24=((lv s).2,(lv s).1):=qX au
 have kz:hG (lv s).2 24=((lx s).2,(lx s).1):=qX aR
 have mS:hG (lx s).2 24=((ly s).2,(ly s).1):=qX bA
 have pU:tY (ly s).2=((mR s).2,(mR s).1):=OT cB
 unfold tM
 simp only[aC,bf,cg,ek,kz,mS,pU]
 exact⟨oE (r:=⟨s,0,true⟩) h,oE aa,oE ae,sm au,sm aR,sm bA,W7 cB,sm dM⟩
end Go.aM
namespace Go.aM
open Go Go.eQ
def oF(P:Int→Int→Bool)(x:ByteArray):Nat→Nat→Bool
 |_,0=>true
 |k,n+1=>!P (ez x (k:Int)) (k:Int)&&oF P x (k+1) n
theorem OV{P:Int→Int→Bool}{x:ByteArray}{b:Nat→Unit→Step Bool Unit}(ad: ∀i v,b i v=bif P (ez x (i:Int)) (i:Int)then .ret false else .br ()):
 ∀(n k:Nat),bp b k n ()=bif oF P x k n then .inr ()else .inl false
 |0,_=>rfl
 |n+1,k=>by
  unfold bp oF;rw[ad]
  cases P (ez x (k:Int)) (k:Int)with
  |true=>rfl
  |false=>exact OV ad n (k+1)
theorem OW{x:ByteArray}{k:Nat}(aj:k<x.size):ez x (k:Int)=((x[k]'aj).toNat:Int):=by
 rw[(OO aj).2,List.getD_eq_getElem?_getD,List.getElem?_eq_getElem (show k<x.data.toList.length from aj)]
 rfl
theorem OX{P:Int→Int→Bool}(qY: ∀c i,128≤c→P c i=true){x:ByteArray}{b:Int→Step Bool Int}
 (ad: ∀c,b c=bif cC.den .l5 x c then(bif P (cC.den .l6 x c) (cC.den .l7 x c)then .ret false else .br (cC.den .kP x c))else .cI c):
 ∀(n p F:Nat),x.size-p=n→n<F→∃v,c0 b F (p:Int)=bif oF P x p n then .inr v else .inl false
 |n,p,0,_,h=>absurd h (Nat.not_lt_zero _)
 |0,p,F+1,hn,_=>by
  refine⟨(p:Int),?_⟩
  have:cC.den .l5 x (p:Int)=false:=decide_eq_false (by rw[Int.toNat_natCast];omega)
  rw[FL (y:=(p:Int)) (by rw[ad,this,cond_false]),oF,cond_true]
 |n+1,p,F+1,hn,hF=>by
  have ak:p<x.size:=by omega
  have aa:cC.den .l5 x (p:Int)=true:=decide_eq_true (by rw[Int.toNat_natCast];exact ak)
  have au:cC.den .l7 x (p:Int)=(p:Int):=by show((p:Int).toNat:Int)=p;rw[Int.toNat_natCast]
  have ae:cC.den .l6 x (p:Int)=((Utf8.decode x p).1:Int):=by show((Utf8.decode x (p:Int).toNat).1:Int)=_;rw[Int.toNat_natCast]
  have aR:cC.den .kP x (p:Int)=((p+(Utf8.decode x p).2:Nat):Int):=by show(((p:Int).toNat+(Utf8.decode x (p:Int).toNat).2:Nat):Int)=_;rw[Int.toNat_natCast]
  rcases Nat.lt_or_ge (x[p]'ak).toNat 128 with aY|aY
  ·have hd:=decode_ascii x p ak aY
   have aw:((Utf8.decode x p).1:Int)=ez x (p:Int):=by rw[hd,OW ak]
   have Xa:p+(Utf8.decode x p).2=p+1:=by rw[hd]
   cases aJ:P (ez x (p:Int)) (p:Int)with
   |true=>
    refine⟨0,?_⟩
    unfold c0 oF;rw[ad,aa,cond_true,ae,au,aw,aJ];rfl
   |false=>
    obtain⟨v,a1⟩:=OX qY ad n (p+1) F (by omega) (by omega)
    refine⟨v,?_⟩
    rw[FM (y:=((p+1:Nat):Int)) (by rw[ad,aa,cond_true,ae,au,aw,aJ,cond_false,aR,Xa]),a1]
    conv=>rhs;rw[oF]
    rw[aJ];rfl
  ·have hd:=(decode_high x p ak aY).1
   have aC:P ((Utf8.decode x p).1:Int) (p:Int)=true:=qY _ _ (by omega)
   have bf:P (ez x (p:Int)) (p:Int)=true:=qY _ _ (by rw[OW ak];omega)
   refine⟨0,?_⟩
   unfold c0 oF;rw[ad,aa,cond_true,ae,au,aC,bf];rfl
theorem Xb{P:Int→Int→Bool}(qY: ∀c i,128≤c→P c i=true){x:ByteArray}(pR:x.size<18446744073709551616):
 ∃(bx:Int→Prop) (gY:Int→Nat),bx 0∧gY 0<dU∧∀(d0:Int),bx d0→(cC.den .l5 x d0=true→(P (cC.den .l6 x d0) (cC.den .l7 x d0)=false→bx (cC.den .kP x d0)∧gY (cC.den .kP x d0)<gY d0)):=by
 refine⟨fun d=>0≤d,fun d=>x.size-d.toNat,Int.le_refl _,by unfold dU;show x.size-(0:Int).toNat<_;omega,fun d hd aa ae=>?_⟩
 obtain⟨p,rfl⟩: ∃p:Nat,d=p:=⟨d.toNat,(Int.toNat_of_nonneg hd).symm⟩
 have ak:p<x.size:=by have:=of_decide_eq_true aa;rwa[Int.toNat_natCast]at this
 have au:cC.den .l7 x (p:Int)=(p:Int):=by show((p:Int).toNat:Int)=p;rw[Int.toNat_natCast]
 have vN:cC.den .l6 x (p:Int)=((Utf8.decode x p).1:Int):=by show((Utf8.decode x (p:Int).toNat).1:Int)=_;rw[Int.toNat_natCast]
 have aR:cC.den .kP x (p:Int)=((p+(Utf8.decode x p).2:Nat):Int):=by show(((p:Int).toNat+(Utf8.decode x (p:Int).toNat).2:Nat):Int)=_;rw[Int.toNat_natCast]
 rcases Nat.lt_or_ge (x[p]'ak).toNat 128 with aY|aY
 ·have hd:=decode_ascii x p ak aY
  rw[aR,hd];refine⟨by show(0:Int)≤_;omega,?_⟩
  show x.size-(((p+1:Nat):Int)).toNat<x.size-((p:Int)).toNat;omega
 ·have hd:=(decode_high x p ak aY).1
  rw[vN,au,qY _ _ (by omega)]at ae
  cases ae
def pV(c i:Int):Bool:=(!(decide (c≥97)&&decide (c≤122)))&&((i==0)||(((c != 95)&&(c != 45))&&((decide (c<48))||(decide (c>57)))))
theorem OY(c i:Int)(h:128≤c):pV c i=true:=by
 unfold pV
 have aa:decide (c≤122)=false:=decide_eq_false (by omega)
 have ae:(c != 95)=true:=by simp;omega
 have au:(c != 45)=true:=by simp;omega
 have aR:decide (c>57)=true:=decide_eq_true (by omega)
 simp only[aa,ae,au,aR,Bool.and_false,Bool.not_false,Bool.and_true,Bool.or_true,Bool.true_and]
def valid(x:ByteArray):Bool:=bif((decide ((ByteArray.size x:Int)<1))||(decide ((ByteArray.size x:Int)>24)))then false else oF pV x 0 x.size
theorem so(x:ByteArray):iq x=valid x:=by
 unfold iq valid
 cases h:((decide ((ByteArray.size x:Int)<1))||(decide ((ByteArray.size x:Int)>24)))with
 |true=>rfl
 |false=>
  simp only[Bool.or_eq_false_iff,decide_eq_false_iff_not]at h;simp only[cond_false];obtain⟨v,aw⟩:=OX OY (x:=x) (b:=fun(aU:Int)=>bif cC.den .l5 x aU then(bif pV (cC.den .l6 x aU) (cC.den .l7 x aU)then Step.ret false else .br (cC.den .kP x aU))else .cI aU) (fun _=>rfl) x.size 0 dU (by omega) (by unfold dU;omega)
  have:(c0 (fun(aU:Int)=>bif cC.den .l5 x aU then(bif pV (cC.den .l6 x aU) (cC.den .l7 x aU)then Step.ret false else .br (cC.den .kP x aU))else .cI aU) dU 0:Bool⊕Int)=_:=aw
  show Sum.elim _ _ (c0 (fun(aU:Int)=>bif cC.den .l5 x aU then(bif pV (cC.den .l6 x aU) (cC.den .l7 x aU)then Step.ret false else .br (cC.den .kP x aU))else .cI aU) dU 0:Bool⊕Int)=_
  rw[this]
  cases oF pV x 0 x.size<;>rfl
theorem qZ(x:ByteArray):nJ x:=by
 intro h
 simp only[Bool.or_eq_false_iff,decide_eq_false_iff_not]at h
 exact Xb OY (x:=x) (by omega)
theorem vO(x:ByteArray):jG x=valid x:=by
 unfold jG valid
 dsimp only
 cases h:((decide ((ByteArray.size x:Int)<1))||(decide ((ByteArray.size x:Int)>24)))with
 |true=>rfl
 |false=>
  simp only[cond_false];rw[Int.toNat_natCast];show Sum.elim _ _ (bp (fun(i6:Nat) (_:Unit)=>bif pV (ez x (i6:Int)) (i6:Int)then(Step.ret false:Step Bool Unit)else .br ()) 0 x.size ())=_
  rw[OV (P:=pV) (x:=x) (fun _ _=>rfl)]
  cases oF pV x 0 x.size<;>rfl
theorem sq(x:ByteArray):pW x:=by
 intro h
 simp only[Bool.or_eq_false_iff,decide_eq_false_iff_not]at h
 omega
end Go.aM
namespace Go.aM
open Go Go.eQ
theorem vP(a b:ByteArray):ByteArray.size (ByteArray.append a b)=a.size+b.size:=ByteArray.size_append
theorem pX{n:Int}(aa: -1099511627776≤n)(ae:n≤1099511627776):gh n:=⟨by omega,by omega⟩
structure BH (v:cD):Prop where
 k:gh v.kind
 n:gh v.n
 s:eM v.s
theorem Xc{v:cD}(h:iY v≠0):mT v=fP 0:=by
 unfold mT
 rw[show(iY v != 0)=true by simpa using h]
 rfl
theorem OZ{s:ByteArray}(h:s.size≤60):eM s:=by unfold eM;omega
theorem Xd{v:cD}(h:iY v=0):mT v=lr v:=by
 have hc:iW v=0:=by rw[←vK];exact h
 unfold mT lr nE
 rw[hc,show(iY v != 0)=false by simpa using h]
 rcases FV hc with⟨aa,ae,au⟩|⟨aa,ae,au,aR⟩|⟨aa,ae,au⟩
 ·simp only[bne_self_eq_false,cond_false]
  rw[aa];exact tX (n:=0) (pX (by decide) (by decide))
 ·have hn:fP v.n=gP v.n:=tX (pX au aR)
  simp only[bne_self_eq_false,cond_false]
  rcases aa with aa|aa|aa<;>rw[aa,hn,tX (pX (by decide) (by decide))]<;>rfl
 ·have ai:hX v.s=fj v.s:=yr (OZ au)
  simp only[bne_self_eq_false,cond_false];rw[aa,ai,tX (pX (by decide) (by decide))]
  rfl
theorem Xe{s:ByteArray}(h:s.size≤60):(hX s).size≤70:=by
 rw[BB (OZ h),ByteArray.size_append]
 have:=yp (u:=fT s.size)
 omega
theorem l8:gh 0:=pX (by decide) (by decide)
theorem Xf(v:cD):(mT v).size≤80:=by
 have aH:=l4 l8
 by_cases h:iY v=0
 ·have hc:iW v=0:=by rw[←vK];exact h
  unfold mT;rw[show(iY v != 0)=false by simpa using h]
  rcases FV hc with⟨aa,ae,au⟩|⟨aa,ae,au,aR⟩|⟨aa,ae,au⟩
  ·rw[aa]
   show(fP 0).size≤80;omega
  ·have hn:=l4 (pX au aR)
   rcases aa with aa|aa|aa
   ·rw[aa]
    show(ByteArray.append (fP 1) (fP v.n)).size≤80;rw[vP]
    have:=l4 (n:=1) (pX (by decide) (by decide))
    omega
   ·rw[aa]
    show(ByteArray.append (fP 2) (fP v.n)).size≤80;rw[vP]
    have:=l4 (n:=2) (pX (by decide) (by decide))
    omega
   ·rw[aa]
    show(ByteArray.append (fP 3) (fP v.n)).size≤80;rw[vP]
    have:=l4 (n:=3) (pX (by decide) (by decide))
    omega
  ·have ai:=Xe au
   rw[aa];show(ByteArray.append (fP 4) (hX v.s)).size≤80;rw[vP]
   have:=l4 (n:=4) (pX (by decide) (by decide))
   omega
 ·rw[Xc h]
  omega
def BI(k n:Int)(s:ByteArray)(b:Bool):Prop:=(b=true→(oD n∧(fP k).size+(fP n).size≤9223372036854775807))∧(b=false→((k==4)=true→(sk s∧(fP k).size+(hX s).size≤9223372036854775807)))
theorem Xg{v:cD}(aw:BH v):F2 v:=by
 have key: ∀(k n:Int) (s:ByteArray),gh k→gh n→eM s→(oD k)∧((k==1)=true→BI k n s (k==1))∧((k==1)=false→((k==2)=true→BI k n s (k==2))∧((k==2)=false→BI k n s (k==3))):=by
  intro k n s aj hn ai
  have b7:=l4 aj
  have a2:=l4 hn
  have a3:=vJ ai
  have ag: ∀b,BI k n s b:=fun b=>⟨fun _=>⟨vI hn,by omega⟩,fun _ _=>⟨yq ai,by omega⟩⟩
  exact⟨vI aj,fun _=>ag _,fun _=>⟨fun _=>ag _,fun _=>ag _⟩⟩
 exact⟨fun _=>key 0 0 ⟨#[]⟩ l8 l8 (by unfold eM;exact Nat.zero_le _),fun _=>key v.kind v.n v.s aw.k aw.n aw.s⟩
structure l2 (q:bK):Prop where
 k:gh q.kind
 n:gh q.de
 d:gh q.key.dev
 c:eM q.key.cU
 a:eM q.key.attr
 m:eM q.name
 v:BH q.value
 t:eM q.text
theorem O0{q:bK}(h:l2 q):(fP q.kind).size≤10∧(fP q.de).size≤10∧(fP q.key.dev).size≤10∧(hX q.key.cU).size≤140737488351242∧(hX q.key.attr).size≤140737488351242∧(hX q.name).size≤140737488351242∧(mT q.value).size≤80∧(hX q.text).size≤140737488351242:=
 ⟨l4 h.k,l4 h.n,l4 h.d,vJ h.c,vJ h.a,vJ h.m,Xf _,vJ h.t⟩
theorem FI{q:bK}(h:l2 q):dG (ky q):=by
 obtain⟨aa,ae,au,aR,bA,cB,dM,mQ⟩:=O0 h
 have Xh:(mT ⟨q.value.kind,q.value.n,q.value.s⟩).size≤80:=dM
 unfold dG ky
 simp only[vP]
 omega
theorem FG{q:bK}(h:l2 q):vD q:=by
 obtain⟨aa,ae,au,aR,bA,cB,dM,mQ⟩:=O0 h
 have Xh:(mT ⟨q.value.kind,q.value.n,q.value.s⟩).size≤80:=dM
 refine⟨vI h.k,vI h.n,?_,vI h.d,?_,yq h.c,?_,yq h.a,?_,yq h.m,?_,Xg h.v,?_,yq h.t,?_⟩<;>(try simp only[vP])<;>omega
end Go.aM
namespace Go.aM
open Go Go.eQ
theorem F3{l:List ByteArray}(h:l.length≤1000000):vQ l:=by
 unfold vQ maxLen
 omega
theorem Xi{l:List cM}(h:l.length≤1000000):BJ l:=by
 unfold BJ maxLen
 omega
theorem Xj(l:List ByteArray):BK l:=by
 unfold BK
 repeat' (first|exact trivial|exact qZ _|intro _|refine And.intro ?_ ?_|refine Exists.intro (fun _ _=>True) (And.intro trivial ?_))
theorem F4(a:Attr):vR a:=by
 unfold vR
 repeat' (first|exact trivial|exact qZ _|exact Xj _|intro _|refine And.intro ?_ ?_|refine Exists.intro (fun _ _=>True) (And.intro trivial ?_))
theorem F5(a:Attr)(v:cD):yy a v:=F4 a
theorem BL{α:Type}{l:List α}{i:Nat}{d:α}(h:i<l.length):List.getD l i d∈l:=by
 rw[List.getD_eq_getElem?_getD,List.getElem?_eq_getElem h]
 exact List.getElem_mem h
theorem toNat_cast(n:Nat):Int.toNat (n:Int)=n:=Int.toNat_natCast n
theorem O1{c:aK}{x:ByteArray}(h: ∀a∈c.attrs,a.enum.length≤64):yz c x:=by
 refine⟨fun _ _=>True,trivial,fun i _ hi _=>⟨fun _=>F3 ?_,fun _=>trivial⟩⟩
 rw[toNat_cast]at hi⊢
 have:=h _ (BL (d:=az .Attr) hi)
 omega
theorem O2(x y:List ByteArray):F6 x y:=by
 intro h
 have h:((x.length:Int) != (y.length:Int))=false:=h
 have h:(x.length:Int)=(y.length:Int):=by simpa using h
 refine⟨fun _ _=>True,trivial,fun i _ hi _=>⟨?_,fun _=>trivial⟩⟩
 rw[toNat_cast]at hi
 omega
theorem Xk(a b:Attr):F7 a b:=fun _=>O2 _ _
theorem Xl(x:cM)(a b:Attr):BM x a b:=by
 unfold BM
 repeat' (first|exact trivial|exact F5 _ _|exact Xk _ _|intro _|refine And.intro ?_ ?_)
theorem Xm{c:aK}(a:Attr)(x:cM)(h: ∀a∈c.attrs,a.enum.length≤64):BN c a x:=by
 unfold BN
 repeat' (first|exact trivial|exact O1 h|exact Xl _ _ _|intro _|refine And.intro ?_ ?_)
theorem tZ{α:Type}{l:List α}{i:Int}(aH:0≤i)(h:i≤l.length):jH l.length none (some i):=by
 simp only[jH]
 omega
theorem Xn{c:aK}{i:Int}(h: ∀a∈c.attrs,a.enum.length≤64)(aH:0≤i)(aa:i<c.commands.length):BO c i:=by
 unfold BO
 repeat' (first|exact trivial|exact aH|exact aa|exact qZ _|exact F4 _|exact Xm _ _ h|exact tZ aH (by omega)|intro _|refine And.intro ?_ ?_|refine Exists.intro (fun _ _=>True) (And.intro trivial ?_))
theorem oz{a:Int}(h:(a != 0)=false):a=0:=by simpa using h
theorem Xo{l:List ByteArray}(h:vS l=0):l.length≤64:=by
 unfold vS at h
 dsimp only at h
 simp only[cond_eq_ite]at h
 split at h
 ·cases h
 ·rename_i ai
  simp only[Bool.or_eq_true,decide_eq_true_eq,not_or]at ai;omega
theorem F8{a:Attr}(h:j2 a=0):a.enum.length≤64:=by
 unfold j2 at h
 dsimp only at h
 simp only[cond_eq_ite]at h
 repeat' split at h
 all_goals first|(cases h;done)|exact Xo h|(rename_i ai;simp only[decide_eq_true_eq]at ai;omega)
theorem Xp(c:aK):F9 c:=by
 refine⟨qZ _,fun _ _=>⟨fun k _=>∀j,j<k→∀a,c.attrs[j]? =some a→a.enum.length≤64,fun j ag=>absurd ag (by omega),fun i _ hi bU=>⟨F4 _,fun mQ=>⟨?_,⟨fun _ _=>True,trivial,fun _ _ _ _ _=>trivial,fun _ _=>?_⟩⟩⟩,fun _ bU=>?_⟩⟩
 ·rw[toNat_cast]at hi
  exact tZ (by omega) (by omega)
 ·have mQ:=F8 (oz mQ)
  rw[toNat_cast]at hi mQ;show ∀j,j<i+1→∀a,c.attrs[j]? =some a→a.enum.length≤64;intro j ag a aY
  by_cases gr:j=i
  ·subst gr
   rw[List.getD_eq_getElem?_getD,aY]at mQ
   exact mQ
  ·exact bU j (by omega) a aY
 ·rw[toNat_cast]at bU
  have dq: ∀a∈c.attrs,a.enum.length≤64:=fun a aY=>by
   obtain⟨j,ag,rfl⟩:=List.mem_iff_getElem.1 aY;exact bU j ag _ (List.getElem?_eq_getElem ag)
  refine⟨fun _ _=>True,trivial,fun i _ hi _=>⟨Xn dq (by omega) (by rw[toNat_cast]at hi;omega),fun _=>trivial⟩,fun _ _=>⟨fun _ _=>True,trivial,fun i _ hi _=>⟨qZ _,fun _=>⟨tZ (by omega) (by rw[toNat_cast]at hi;omega),fun _=>trivial⟩⟩⟩⟩
theorem Xq(l:List aK):Ga l:=by
 refine fun _=>⟨fun _ _=>True,trivial,fun i _ hi _=>⟨Xp _,fun _=>⟨tZ (by omega) (by rw[toNat_cast]at hi;omega),⟨fun _ _=>True,trivial,fun _ _ _ _ _=>trivial,fun _ _=>trivial⟩⟩⟩⟩
theorem sr{n:Int}(aa: -9223372036854775808≤n)(ae:n≤9223372036854775807):IntKind.wrap .i64 n=n:=by
 rw[IntKind.wrap_i64]
 omega
theorem Gb(h:Home):yA h:=by
 refine⟨Xq _,fun _ au=>⟨fun _ _=>True,trivial,fun i _ hi _ _=>⟨fun aw=>?_,fun _ _=>⟨qZ _,fun _ _=>trivial⟩⟩⟩⟩
 have aw:=of_decide_eq_true aw
 have au:=of_decide_eq_false au
 rw[toNat_cast]at hi
 show 0≤IntKind.wrap .i64 ((i:Int)-1)∧IntKind.wrap .i64 ((i:Int)-1)<(h.bn.length:Int)
 rw[sr (by omega) (by omega)]
 omega
theorem Gc(h:Home)(x:Int):yB h x:=Gb h
end Go.aM
namespace Go.aM
open Go Go.eQ
def cl(q:Nat→Bool)(n:Nat):Option Nat:=(List.range n).find? q
theorem ja{q:Nat→Bool}{n i:Nat}(h:cl q n=some i):i<n∧q i=true∧∀j,j<i→q j=false:=by
 unfold cl at h
 rw[List.find?_range_eq_some]at h
 obtain⟨aa,ae,au⟩:=h
 exact⟨List.mem_range.1 ae,aa,fun j ag=>by simpa using au j ag⟩
theorem ua{q:Nat→Bool}{n:Nat}(h:cl q n=none): ∀j,j<n→q j=false:=fun j ag=>by
 unfold cl at h
 rw[List.find?_range_eq_none]at h
 simpa using h j ag
theorem BP{q:Nat→Bool}{n:Nat}(h: ∀j,j<n→q j=false):cl q n=none:=by
 unfold cl
 rw[List.find?_range_eq_none]
 exact fun j ag=>by simp[h j ag]
theorem yC{q:Nat→Bool}{n i:Nat}(hi:i<n)(aJ:q i=true)(hn: ∀j,j<i→q j=false):cl q n=some i:=by
 unfold cl
 rw[List.find?_range_eq_some]
 exact⟨aJ,List.mem_range.2 hi,fun j ag=>by simp[hn j ag]⟩
theorem BQ{q q':Nat→Bool}{n:Nat}(h: ∀j,j<n→q j=q' j):cl q n=cl q' n:=by
 cases aa:cl q' n with
 |none=>exact BP fun j ag=>by rw[h j ag];exact ua aa j ag
 |some i=>
  obtain⟨a,b,c⟩:=ja aa;exact yC a (by rw[h i a];exact b) fun j ag=>by rw[h j (by omega)];exact c j ag
theorem Xr{R:Type}{p:Nat→Bool}{f:Nat→R}{b:Nat→Unit→Step R Unit}(ad: ∀i c,b i c=bif p i then .ret (f i)else .br ()):
 ∀(n k:Nat),bp b k n ()=match(List.range' k n).find? p with|some i=>.inl (f i)|none=>.inr ():=by
 intro n
 induction n with
 |zero=>intro k;rfl
 |succ n a1=>
  intro k;unfold bp;rw[ad,List.range'_succ,List.find?_cons]
  cases p k with
  |true=>rfl
  |false=>exact a1 (k+1)
theorem ir{R Q:Type}{p:Nat→Bool}{F:Nat→R}{b:Nat→Unit→Step R Unit}{f:R→Q}{g:Unit→Q}{n:Nat}(ad: ∀i u,b i u=bif p i then .ret (F i)else .br ()):
 Sum.elim f g (bp b 0 n ())=match cl p n with|some i=>f (F i)|none=>g ():=by
 rw[Xr ad,←List.range_eq_range']
 show Sum.elim f g (match cl p n with|some i=>.inl (F i)|none=>.inr ())=_
 cases cl p n<;>rfl
theorem O3{R A:Type}{b b':Nat→A→Step R A}: ∀(n k:Nat) (a:A),(∀i a,k≤i→i<k+n→b i a=b' i a)→bp b k n a=bp b' k n a
 |0,_,_,_=>rfl
 |n+1,k,a,h=>by
  unfold bp;rw[h k a (Nat.le_refl _) (by omega)]
  cases b' k a with
  |ret r=>rfl
  |cI bc=>rfl
  |br bc=>exact O3 n (k+1) bc fun i a aa ae=>h i a (by omega) (by omega)
theorem el{R Q A:Type}{f:R→Q}{g g':A→Q}{b b':Nat→A→Step R A}{n:Nat}{a:A}(ad: ∀i a,i<n→b i a=b' i a)(ah: ∀a,g a=g' a):Sum.elim f g (bp b 0 n a)=Sum.elim f g' (bp b' 0 n a):=by
 rw[O3 n 0 a fun i a _ h=>ad i a (by omega),show g=g' from funext ah]
theorem l9(a b:ByteArray):cq .eql a b=decide (a=b):=oy a b
theorem yD(a b:ByteArray):cq .neq a b= !decide (a=b):=by
 show(!dw a b)=_
 rw[oy]
theorem O4{q:Nat→Bool}{n i:Nat}(hi:i<n)(aJ:q i=true):decide ((match cl q n with|some j=>(j:Int)|none=> -1)<(i:Int))=(cl q i).isSome:=by
 cases h:cl q n with
 |none=>rw[ua h i hi]at aJ;cases aJ
 |some j=>
  obtain⟨aa,ae,au⟩:=ja h
  by_cases ag:j<i
  ·rw[yC ag ae au]
   exact decide_eq_true (by show(j:Int)<(i:Int);omega)
  ·rw[BP fun k aj=>au k (by omega)]
   exact decide_eq_false (by show ¬(j:Int)<(i:Int);omega)
theorem BR(l:List ByteArray)(x:ByteArray):q0 l x=match cl (fun i=>decide (x=l.getD i (az .str))) l.length with|some i=>(i:Int)|none=> -1:=by
 unfold q0
 dsimp only
 rw[toNat_cast,ir (p:=fun i=>decide (x=l.getD i (az .str))) (F:=fun i=>(i:Int)) (fun i u=>by simp only[l9,toNat_cast])]
theorem Gd(l:List ByteArray)(x:ByteArray):q1 l x=q0 l x:=by
 rw[BR]
 unfold q1
 dsimp only
 rw[toNat_cast,ir (p:=fun i=>decide (l.getD i (az .str)=x)) (F:=fun i=>(i:Int)) (fun i u=>by simp only[l9,toNat_cast]),BQ (q':=fun i=>decide (x=l.getD i (az .str))) fun j _=>decide_eq_decide.2 eq_comm]
theorem Xs(l:List ByteArray)(x:ByteArray):ub l x=(cl (fun i=>decide (x=l.getD i (az .str))) l.length).isSome:=by
 unfold ub
 dsimp only
 rw[toNat_cast,ir (p:=fun i=>decide (x=l.getD i (az .str))) (F:=fun _=>true) (fun i u=>by simp only[l9,toNat_cast];rw[show(decide (l.getD i (az .str)=x))=decide (x=l.getD i (az .str))from decide_eq_decide.2 eq_comm])]
 all_goals cases cl (fun i=>decide (x=l.getD i (az .str))) l.length<;>rfl
theorem Xt(l:List ByteArray)(x:ByteArray):jI l x=(cl (fun i=>decide (x=l.getD i (az .str))) l.length).isSome:=by
 unfold jI
 rw[BR]
 cases cl (fun i=>decide (x=l.getD i (az .str))) l.length with
 |none=>rfl
 |some i=>exact decide_eq_true (by show(i:Int)≥0;omega)
theorem getD_take{α:Type}{l:List α}{i j:Nat}{d:α}(h:j<i):(l.take i).getD j d=l.getD j d:=by
 rw[List.getD_eq_getElem?_getD,List.getD_eq_getElem?_getD,List.getElem?_take,if_pos h]
theorem q2{α:Type}(l:List α)(i:Nat):iF l none (some (i:Int))=l.take i:=rfl
theorem Xu{l:List ByteArray}{i:Nat}(hi:i<l.length):decide (q3 l (l.getD i (az .str))<(i:Int))=ub (iF l none (some (i:Int))) (l.getD i (az .str)):=by
 unfold q3
 rw[BR,Xs,q2,List.length_take,Nat.min_eq_left (by omega),O4 hi (decide_eq_true rfl)]
 rw[BQ (q':=fun j=>decide (l.getD i (az .str)=(l.take i).getD j (az .str))) fun j ag=>by rw[getD_take ag]]
theorem Xv(l:List ByteArray):(bif((decide ((List.length l:Int)<1))||(decide ((List.length l:Int)>64)))then 3 else
    Sum.elim (fun r=>r) (fun _=>0) (bp (fun(i13:Nat) (_:Unit)=>bif(!(jG (List.getD l (Int.toNat (i13:Int)) (az .str))))then(.ret 10:Step Int Unit)else
      bif(ub (iF l none (some (i13:Int))) (List.getD l (Int.toNat (i13:Int)) (az .str)))then .ret 9 else .br ()) 0 (Int.toNat (List.length l:Int)) ():Int⊕Unit))=vS l:=by
  unfold vS;dsimp only;refine congrArg (cond _ 3) ?_
  rw[toNat_cast];refine el (fun i _ hi=>?_) fun _=>rfl
  simp only[toNat_cast,vO,so];rw[Xu hi]
theorem Ge(a:Attr):pY a=j2 a:=by
 unfold pY j2 sl
 rw[vO,so]
 dsimp only
 rw[Xv]
 have aj:(a.kind != 3)= !(a.kind==3):=rfl
 rw[aj]
 have ad:((!(decide (a.min≥ -1099511627776)&&decide (a.min≤1099511627776))|| !(decide (a.max≥ -1099511627776)&&decide (a.max≤1099511627776)))||decide (a.min>a.max))=((decide (a.min< -1099511627776)||decide (a.max>1099511627776))||decide (a.min>a.max)):=by
  rw[Bool.eq_iff_iff];simp only[Bool.or_eq_true,Bool.not_eq_true',Bool.and_eq_false_iff,decide_eq_false_iff_not,decide_eq_true_eq];omega
 rw[←ad]
 cases a.kind==3<;>cases a.kind==2<;>cases (decide (a.min≥ -1099511627776)&&decide (a.min≤1099511627776))<;>rfl
end Go.aM
namespace Go.aM
open Go Go.eQ
theorem Xw(v:Int):(BS v != v)=((decide (v<(-1099511627776)))||(decide (v>1099511627776))):=by
 have e:BS v=if(1099511627776:Int)<(if(-1099511627776:Int)>v then(-1099511627776:Int)else v)then(1099511627776:Int)else(if(-1099511627776:Int)>v then(-1099511627776:Int)else v):=rfl
 rw[e,Bool.eq_iff_iff]
 simp only[bne_iff_ne,Bool.or_eq_true,decide_eq_true_eq]
 split<;>split<;>omega
theorem Xx(a:Attr)(v:cD):q4 a v=vT a v:=by
 unfold q4 vT
 rw[Ge,ON]
 dsimp only
 generalize (v.kind==2&&(decide (v.n<a.min)||decide (v.n>a.max)))=A
 cases A<;>rfl
theorem O5(x y:List ByteArray):yE x y=yF x y:=rfl
theorem Gf(x y:List ByteArray):yF x y=decide (x=y):=by
 unfold yF
 dsimp only
 by_cases h:(x.length:Int)=(y.length:Int)
 ·rw[show((x.length:Int) != (y.length:Int))=false by simpa using h,cond_false,toNat_cast,ir (p:=fun i=>!decide (x.getD i (az .str)=y.getD i (az .str))) (F:=fun _=>false) (fun i u=>by simp only[yD,toNat_cast])]
  cases hf:cl (fun i=>!decide (x.getD i (az .str)=y.getD i (az .str))) x.length with
  |none=>
   have hf:=ua hf
   refine(decide_eq_true ?_).symm
   refine List.ext_getElem (by omega) fun i aa ae=>?_
   have:=hf i aa
   simpa[List.getD_eq_getElem?_getD,List.getElem?_eq_getElem aa,List.getElem?_eq_getElem ae]using this
  |some i=>
   obtain⟨_,ae,_⟩:=ja hf;refine(decide_eq_false fun e=>?_).symm
   subst e;simp at ae
 ·rw[show((x.length:Int) != (y.length:Int))=true by simpa using h,cond_true]
  exact(decide_eq_false fun e=>h (by rw[e])).symm
theorem Xy(x y:Attr):BT x y=((y.kind==x.kind)&&yE y.enum x.enum):=by
 unfold BT
 rw[O5,Gf,Gf]
 have aa:(x.kind==y.kind)=(y.kind==x.kind):=by rw[Bool.eq_iff_iff];simp only[beq_iff_eq];exact eq_comm
 have ae:decide (x.enum=y.enum)=decide (y.enum=x.enum):=decide_eq_decide.2 eq_comm
 dsimp only
 rw[aa,ae]
 cases y.kind==x.kind<;>rfl
theorem Xz(x:cM)(a b:Attr):BU x a b=BV x a b:=by
 unfold BU BV
 rw[Xy]
 simp only[Xx]
 cases b.kind==a.kind<;>cases x.kind==1<;>rfl
theorem XA(a:Attr):yG a ⟨⟨#[]⟩,0,0,0,[],false,false⟩=uc a:=by
 unfold yG uc
 dsimp only
 rw[O5,Gf]
 have h:decide (a.enum=[])=((a.enum.length:Int)==0):=by
  rw[Bool.eq_iff_iff];simp
 rw[h]
 generalize (((cq .eql a.name ⟨#[]⟩&&a.kind==0)&&a.min==0)&&a.max==0)=A
 cases A<;>cases ((a.enum.length:Int)==0)<;>cases a.fx<;>cases a.safety<;>rfl
theorem Gg(c:aK)(x:ByteArray):oG c x=match cl (fun i=>decide ((c.attrs.getD i (az .Attr)).name=x)) c.attrs.length with|some i=>(i:Int)|none=> -1:=by
 unfold oG
 dsimp only
 rw[toNat_cast,ir (p:=fun i=>decide ((c.attrs.getD i (az .Attr)).name=x)) (F:=fun i=>(i:Int)) (fun i u=>by simp only[l9,toNat_cast])]
 all_goals cases cl (fun i=>decide ((c.attrs.getD i (az .Attr)).name=x)) c.attrs.length<;>rfl
theorem O6(c:aK)(x:ByteArray):ss c x=match cl (fun i=>decide ((c.attrs.getD i (az .Attr)).name=x)) c.attrs.length with|some i=>(c.attrs.getD i (az .Attr),true)|none=>(⟨⟨#[]⟩,0,0,0,[],false,false⟩,false):=by
 unfold ss
 dsimp only
 rw[toNat_cast,ir (p:=fun i=>decide ((c.attrs.getD i (az .Attr)).name=x)) (F:=fun i=>(c.attrs.getD i (az .Attr),true)) (fun i u=>by simp only[l9,toNat_cast]<;>rfl)]
 all_goals cases cl (fun i=>decide ((c.attrs.getD i (az .Attr)).name=x)) c.attrs.length<;>rfl
theorem O7(c:aK)(x:ByteArray):su c x=ss c x:=by
 unfold su
 rw[Gg,O6]
 cases cl (fun i=>decide ((c.attrs.getD i (az .Attr)).name=x)) c.attrs.length with
 |none=>rfl
 |some i=>
  dsimp only;rw[decide_eq_false (show ¬(i:Int)<0 by omega),cond_false,toNat_cast]
theorem XB(c:aK)(a:Attr)(x:cM):yH c a x=pZ c a x:=by
 unfold yH pZ
 simp only[O7,Xz,←Xw]
 cases x.kind==3<;>rfl
theorem XC(c:aK){k:Nat}(aj:k<c.commands.length):yI c (k:Int)=oH c (k:Int):=by
 unfold yI oH
 simp only[vO,so,XB,Ge,XA,toNat_cast,q2,List.length_take,Nat.min_eq_left (Nat.le_of_lt aj)]
 refine congrArg (cond _ 10) ?_
 refine el (fun i _ hi=>?_) fun _=>rfl
 rw[getD_take hi]
theorem O8(c:aK):yJ c=oI c:=by
 unfold yJ oI
 dsimp only
 generalize (((decide ((List.length c.attrs:Int)>12))||(decide ((List.length c.commands:Int)>12)))||(decide ((List.length c.events:Int)>12)))=A
 rw[toNat_cast,ir (p:=fun i=>decide ((List.length ((List.getD c.commands i (az .Command)).gj):Int)>12)) (F:=fun _=>true) (fun i u=>by simp only[toNat_cast]),ir (p:=fun i=>decide ((List.length ((List.getD c.commands i (az .Command)).gj):Int)>12)) (F:=fun _=>true) (fun i u=>by simp only[toNat_cast])]
 all_goals cases A<;>cases cl (fun i=>decide ((List.length ((List.getD c.commands i (az .Command)).gj):Int)>12)) c.commands.length<;>rfl
theorem XD{c:aK}{i:Nat}(hi:i<c.attrs.length):decide (oG c ((c.attrs.getD i (az .Attr)).name)<(i:Int))=(cl (fun j=>decide ((c.attrs.getD j (az .Attr)).name=(c.attrs.getD i (az .Attr)).name)) i).isSome:=by
 rw[Gg]
 exact O4 hi (decide_eq_true rfl)
theorem Gh{α R Q:Type}(nm:α→ByteArray)(l:List α)(n:Nat)(d:α)(x:ByteArray)(r:R)(f:R→Q)(g:Unit→Q):
 Sum.elim f g (bp (fun(j:Nat) (_:Unit)=>bif cq .eql (nm (l.getD j d)) x then .ret r else .br ()) 0 n ())=bif(cl (fun j=>decide (nm (l.getD j d)=x)) n).isSome then f r else g ():=by
 rw[ir (p:=fun j=>decide (nm (l.getD j d)=x)) (F:=fun _=>r) (fun i u=>by simp only[l9])]
 cases cl (fun j=>decide (nm (l.getD j d)=x)) n<;>rfl
theorem yK{α R Q:Type}(nm:α→ByteArray)(l:List α)(n:Nat)(d:α)(x:ByteArray)(r:R)(f:R→Q)(g:Unit→Q):
 Sum.elim f g (bp (fun(j:Nat) (_:Unit)=>bif cq .eql (nm ((l.take n).getD j d)) x then .ret r else .br ()) 0 n ())=bif(cl (fun j=>decide (nm (l.getD j d)=x)) n).isSome then f r else g ():=by
 rw[Gh nm (l.take n),BQ (q':=fun j=>decide (nm (l.getD j d)=x)) fun j ag=>by rw[getD_take ag]]
theorem XE(c:aK):yL c=kQ c:=by
 unfold yL kQ
 simp only[vO,so,O8,Ge,toNat_cast]
 refine congrArg (cond _ 10) (congrArg (cond _ 3) ?_)
 refine el (fun i _ hi=>?_) fun _=>el (fun i _ hi=>?_) fun _=>el (fun i _ hi=>?_) fun _=>rfl
 ·refine congrArg (cond _ _) ?_
  rw[XD hi,q2,List.length_take,Nat.min_eq_left (Nat.le_of_lt hi),yK (fun a:Attr=>a.name)]
 ·rw[XC c hi]
 ·refine congrArg (cond _ _) ?_
  rw[Gh (fun s:ByteArray=>s),Xt,q2,List.length_take,Nat.min_eq_left (Nat.le_of_lt hi)];rw[BQ (q':=fun j=>decide (c.events.getD i (az .str)=(c.events.take i).getD j (az .str))) fun j ag=>by rw[getD_take ag];exact decide_eq_decide.2 eq_comm]
theorem O9(l:List aK):yM l=ma l:=by
 unfold yM ma
 simp only[XE,toNat_cast]
 refine congrArg (cond _ 3) ?_
 refine el (fun i _ hi=>?_) fun _=>rfl
 refine congrArg (cond _ _) ?_
 rw[Gh (fun a:aK=>a.name),q2,List.length_take,Nat.min_eq_left (Nat.le_of_lt hi),yK (fun a:aK=>a.name)]
end Go.aM
namespace Go.aM
open Go Go.eQ
theorem sv{e:Nat→Int}{b:Nat→Unit→Step Int Unit}{g:Unit→Int}{n:Nat}(ad: ∀i,i<n→b i ()=bif(e i != 0)then .ret (e i)else .br ()):
 Sum.elim (fun r=>r) g (bp b 0 n ())=0↔(∀i,i<n→e i=0)∧g ()=0:=by
 rw[el (b':=fun i _=>bif(e i != 0)then .ret (e i)else .br ()) (fun i _ hi=>ad i hi) fun _=>rfl,ir (p:=fun i=>e i != 0) (F:=fun i=>e i) (fun _ _=>rfl)]
 cases h:cl (fun i=>e i != 0) n with
 |none=>
  have h:=ua h
  exact⟨fun ah=>⟨fun i hi=>by simpa using h i hi,ah⟩,fun ah=>ah.2⟩
 |some i=>
  obtain⟨aa,ae,_⟩:=ja h
  have ae:e i≠0:=by simpa using ae
  exact⟨fun he=>absurd he ae,fun he=>absurd (he.1 i aa) ae⟩
theorem gu{c:Bool}{x y:Int}(hx:x≠0)(h:(bif c then x else y)=0):c=false∧y=0:=by
 cases c with
 |true=>exact absurd h hx
 |false=>exact⟨rfl,h⟩
theorem p0{x y:Int}(h:(bif(x != 0)then x else y)=0):x=0∧y=0:=by
 cases hx:(x != 0)with
 |true=>
  rw[hx]at h
  have h:x=0:=h
  rw[h]at hx;simp at hx
 |false=>
  rw[hx]at h;exact⟨by simpa using hx,h⟩
structure p1 (c:aK):Prop where
 wide:oI c=false
 attrs: ∀i,i<c.attrs.length→j2 (c.attrs.getD i (az .Attr))=0∧(cl (fun j=>decide ((c.attrs.getD j (az .Attr)).name=(c.attrs.getD i (az .Attr)).name)) i).isSome=false
 Pb: ∀i,i<c.commands.length→oH c (i:Int)=0
theorem XF{c:aK}(h:kQ c=0):p1 c:=by
 unfold kQ at h
 dsimp only at h
 obtain⟨_,h⟩:=gu (by decide) h
 obtain⟨hw,h⟩:=gu (by decide) h
 simp only[toNat_cast]at h
 obtain⟨aY,h⟩:=(sv (e:=fun i=>bif(j2 (c.attrs.getD i (az .Attr)) != 0)then j2 (c.attrs.getD i (az .Attr))else bif(cl (fun j=>decide ((c.attrs.getD j (az .Attr)).name=(c.attrs.getD i (az .Attr)).name)) i).isSome then 9 else 0) fun i hi=>by
  rw[q2,List.length_take,Nat.min_eq_left (Nat.le_of_lt hi),yK (fun a:Attr=>a.name)]
  cases aQ:(j2 (c.attrs.getD i (az .Attr)) != 0)with
  |true=>simp only[cond_true,aQ]
  |false=>
   simp only[cond_false]
   cases (cl (fun j=>decide ((c.attrs.getD j (az .Attr)).name=(c.attrs.getD i (az .Attr)).name)) i).isSome<;>rfl).1 h
 obtain⟨hc,_⟩:=(sv (e:=fun i=>oH c (i:Int)) fun i hi=>rfl).1 h
 refine⟨hw,fun i hi=>?_,hc⟩
 obtain⟨aa,ae⟩:=p0 (aY i hi)
 exact⟨aa,(gu (by decide) ae).1⟩
theorem p1.enum{c:aK}(h:p1 c): ∀a∈c.attrs,a.enum.length≤64:=fun a aY=>by
 obtain⟨j,ag,rfl⟩:=List.mem_iff_getElem.1 aY
 have:=(h.attrs j ag).1
 rw[List.getD_eq_getElem?_getD,List.getElem?_eq_getElem ag]at this
 exact F8 this
theorem XG{q:Nat→Bool}{n:Nat}(h:(cl q n).isSome=false): ∀j,j<n→q j=false:=by
 cases hf:cl q n with
 |none=>exact ua hf
 |some i=>rw[hf]at h;cases h
theorem p1.XH{c:aK}(h:p1 c): ∀d∈c.commands,d.gj.length≤12:=fun d hd=>by
 obtain⟨j,ag,rfl⟩:=List.mem_iff_getElem.1 hd
 have hw:=h.wide
 unfold oI at hw
 dsimp only at hw
 rw[toNat_cast,ir (p:=fun i=>decide ((List.length ((List.getD c.commands i (az .Command)).gj):Int)>12)) (F:=fun _=>true) (fun i u=>by simp only[toNat_cast])]at hw
 cases hf:cl (fun i=>decide ((List.length ((List.getD c.commands i (az .Command)).gj):Int)>12)) c.commands.length with
 |none=>
  have:=ua hf j ag
  rw[List.getD_eq_getElem?_getD,List.getElem?_eq_getElem ag]at this
  have:=of_decide_eq_false this
  simp only[Option.getD_some]at this;omega
 |some i=>rw[hf]at hw;cases hw
theorem XI{c:aK}{k:Nat}(h:oH c (k:Int)=0)(aj:k<c.commands.length):
 (((c.commands.getD k (az .Command)).param.kind=0∧uc (c.commands.getD k (az .Command)).param=true)∨j2 (c.commands.getD k (az .Command)).param=0)∧∀i,i<(c.commands.getD k (az .Command)).gj.length→pZ c (c.commands.getD k (az .Command)).param ((c.commands.getD k (az .Command)).gj.getD i (az .cM))=0:=by
 unfold oH at h
 simp only[toNat_cast]at h
 generalize c.commands.getD k (az .Command)=d at h⊢
 obtain⟨_,h⟩:=gu (by decide) h
 rw[q2,List.length_take,Nat.min_eq_left (Nat.le_of_lt aj)]at h
 obtain⟨_,h⟩:=(sv (e:=fun i=>bif cq .eql (((c.commands.take k).getD i (az .Command)).name) d.name then 9 else 0) fun i hi=>by
  cases cq .eql (((c.commands.take k).getD i (az .Command)).name) d.name<;>rfl).1 h
 have gQ: ∀{x:Int},x=Sum.elim (fun r=>r) (fun _=>0) (bp (fun(i9:Nat) (_:Unit)=>bif(pZ c d.param (d.gj.getD i9 (az .cM)) != 0)then(.ret (pZ c d.param (d.gj.getD i9 (az .cM))):Step Int Unit)else .br ()) 0 d.gj.length ())→x=0→∀i,i<d.gj.length→pZ c d.param (d.gj.getD i (az .cM))=0:=fun hx aH=>by
  rw[hx]at aH;exact((sv (e:=fun i=>pZ c d.param (d.gj.getD i (az .cM))) fun i hi=>rfl).1 aH).1
 cases ak:(d.param.kind==0)with
 |true=>
  rw[ak,cond_true]at h;obtain⟨aa,ae⟩:=gu (by decide) h
  exact⟨.inl ⟨by simpa using ak,by simpa using aa⟩,gQ rfl ae⟩
 |false=>
  rw[ak,cond_false]at h;obtain⟨aa,ae⟩:=p0 h;exact⟨.inr aa,gQ rfl ae⟩
theorem p1.par{c:aK}(h:p1 c): ∀d∈c.commands,d.param.enum.length≤64:=fun d hd=>by
 obtain⟨j,ag,rfl⟩:=List.mem_iff_getElem.1 hd
 have:=(XI (h.Pb j ag) ag).1
 rw[List.getD_eq_getElem?_getD,List.getElem?_eq_getElem ag]at this
 simp only[Option.getD_some]at this
 rcases this with⟨_,ae⟩|ae
 ·unfold uc at ae
  simp only[Bool.and_eq_true,beq_iff_eq]at ae;omega
 ·exact F8 ae
theorem vU{l:List aK}(h:ma l=0): ∀i,i<l.length→p1 (l.getD i (az .aK))∧∀j,j<i→(l.getD j (az .aK)).name≠(l.getD i (az .aK)).name:=by
 unfold ma at h
 dsimp only at h
 obtain⟨_,h⟩:=gu (by decide) h
 simp only[toNat_cast]at h
 obtain⟨aY,_⟩:=(sv (e:=fun i=>bif(kQ (l.getD i (az .aK)) != 0)then kQ (l.getD i (az .aK))else bif(cl (fun j=>decide ((l.getD j (az .aK)).name=(l.getD i (az .aK)).name)) i).isSome then 9 else 0) fun i hi=>by
  rw[q2,List.length_take,Nat.min_eq_left (Nat.le_of_lt hi),yK (fun a:aK=>a.name)]
  cases aQ:(kQ (l.getD i (az .aK)) != 0)with
  |true=>simp only[cond_true,aQ]
  |false=>
   simp only[cond_false]
   cases (cl (fun j=>decide ((l.getD j (az .aK)).name=(l.getD i (az .aK)).name)) i).isSome<;>rfl).1 h
 intro i hi
 obtain⟨aa,ae⟩:=p0 (aY i hi)
 exact⟨XF aa,fun j ag=>of_decide_eq_false (XG (gu (by decide) ae).1 j ag)⟩
end Go.aM
