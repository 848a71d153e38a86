/- num.Parse, Unhex and the cut at a byte are the reference's. Conditions: none. -/
import Derived.Test.YtmkpmgfieagphaaDoorKLl
namespace Go.aG
open Go Go.du
def oM(c:Int):Bool:=(decide (c≥48))&&(decide (c≤57))
def sJ(a c:Int):Int:=IntKind.wrap .i64 ((IntKind.wrap .i64 ((10:Int)*a))+(IntKind.wrap .i64 (IntKind.wrap .u8 (c-(48:Int)))))
def hI(x:ByteArray):Nat→Nat→Int→Option Int
 |0,_,a=>some a
 |n+1,k,a=>bif oM (aK x (k:Int))then hI x n (k+1) (sJ a (aK x (k:Int)))else none
def HB(o:Option Int):(Int × Bool)⊕Int:=match o with
 |none=>.inl (0,false)
 |some v=>.inr v
theorem NI{x:ByteArray}{b:Nat→Int→Step (Int × Bool) Int}(ad: ∀i c,b i c=bif oM (aK x (i:Int))then .bP (sJ c (aK x (i:Int)))else bif((decide ((i:Int)>0))||(aK x (i:Int) != 45))then .ret (0,false)else .bP c):
 ∀(n k:Nat) (a:Int),0<k→bS b k n a=HB (hI x n k a):=by
 intro n
 induction n with
 |zero=>intro k a _;rfl
 |succ n aO=>
  intro k a aj;unfold bS hI;rw[ad]
  cases oM (aK x (k:Int))with
  |true=>exact aO _ _ (Nat.succ_pos _)
  |false=>
   rw[decide_eq_true (show(k:Int)>0 by omega)]
   rfl
noncomputable def By(x:ByteArray)(o:Option Int):Int × Bool:=match o with
 |none=>(0,false)
 |some a=>bif((hq (bif(aK x 0==45)then IntKind.wrap .i64 (0-a)else a) != (bif(aK x 0==45)then IntKind.wrap .i64 (0-a)else a))||bm .neq (fr (bif(aK x 0==45)then IntKind.wrap .i64 (0-a)else a)) x)then(0,false)else(bif(aK x 0==45)then IntKind.wrap .i64 (0-a)else a,true)
noncomputable def Bz(x:ByteArray):Int × Bool:=bif(((ByteArray.size x:Int)==0)||(decide ((x.size:Int)>14)))then(0,false)else By x (bif(aK x 0==45)then hI x (x.size-1) 1 0 else hI x x.size 0 0)
theorem Xd(x:ByteArray)(v:Int):(bif(hq v != v)then(bif((hq v != v)||(bm .neq (⟨#[]⟩:ByteArray) x))then((0:Int),false)else(v,true))else(bif((hq v != v)||(bm .neq (m21 v) x))then(0,false)else(v,true)))=bif((hq v != v)||bm .neq (fr v) x)then(0,false)else(v,true):=by
 cases (hq v != v)<;>rfl
theorem Xe(x:ByteArray):fv x=Bz x:=by
 unfold fv Bz
 dsimp only
 simp only[Xd]
 cases h:(((ByteArray.size x:Int)==0)||(decide ((ByteArray.size x:Int)>14)))with
 |true=>rfl
 |false=>
  simp only[Bool.or_eq_false_iff,beq_eq_false_iff_ne,decide_eq_false_iff_not]at h;obtain⟨aa,af⟩:=h;simp only[cond_false];rw[Int.toNat_natCast];obtain⟨n,hn⟩: ∃n,x.size=n+1:=⟨x.size-1,by omega⟩
  show Sum.elim (fun r=>r) (fun cG=>bif(aK x 0==45)then _ else _) (bS (fun(i:Nat) (c:Int)=>(bif oM (aK x (i:Int))then .bP (sJ c (aK x (i:Int)))else bif((decide ((i:Int)>0))||(aK x (i:Int) != 45))then .ret (0,false)else .bP c:Step (Int × Bool) Int)) 0 x.size 0)=_
  have an:(bS (fun(i:Nat) (c:Int)=>(bif oM (aK x (i:Int))then .bP (sJ c (aK x (i:Int)))else bif((decide ((i:Int)>0))||(aK x (i:Int) != 45))then .ret (0,false)else .bP c:Step (Int × Bool) Int)) 0 x.size 0)=HB (bif(aK x 0==45)then hI x (x.size-1) 1 0 else hI x x.size 0 0):=by
   rw[hn,Nat.add_sub_cancel];unfold bS
   by_cases BA:aK x 0=45
   ·have e:aK x ((0:Nat):Int)=45:=BA
    rw[e,BA];show bS _ 1 n 0=_;rw[NI (x:=x) (fun _ _=>rfl) n 1 0 (by decide)]
    rfl
   ·have e:(aK x 0==45)=false:=by simpa using BA
    have a6:(aK x ((0:Nat):Int) != 45)=true:=by simpa using BA
    rw[e,cond_false,a6,Bool.or_true];show _=HB (bif oM (aK x ((0:Nat):Int))then hI x n 1 (sJ 0 (aK x ((0:Nat):Int)))else none)
    cases oM (aK x ((0:Nat):Int))with
    |true=>
     show bS _ 1 n _=_;rw[NI (x:=x) (fun _ _=>rfl) n 1 _ (by decide)]
     rfl
    |false=>rfl
  rw[an]
  cases (bif(aK x 0==45)then hI x (x.size-1) 1 0 else hI x x.size 0 0)with
  |none=>rfl
  |some a=>
   unfold By
   cases h:(aK x 0==45)<;>rfl
theorem Xf(v:Int):(hq v != v)=((decide (v>1099511627776))||(decide (v<(-1099511627776)))):=by
 have e:hq v=if(1099511627776:Int)<(if(-1099511627776:Int)>v then(-1099511627776:Int)else v)then(1099511627776:Int)else(if(-1099511627776:Int)>v then(-1099511627776:Int)else v):=rfl
 rw[e]
 by_cases aa:v>1099511627776
 ·have i1:(if(-1099511627776:Int)>v then(-1099511627776:Int)else v)=v:=if_neg (by omega)
  rw[i1,if_pos (show(1099511627776:Int)<v by omega),decide_eq_true aa,Bool.true_or,bne_iff_ne]
  omega
 ·by_cases af:v< -1099511627776
  ·have i1:(if(-1099511627776:Int)>v then(-1099511627776:Int)else v)= -1099511627776:=if_pos (by omega)
   rw[i1,if_neg (show ¬(1099511627776:Int)< -1099511627776 by decide),decide_eq_true af,Bool.or_true,bne_iff_ne]
   omega
  ·have i1:(if(-1099511627776:Int)>v then(-1099511627776:Int)else v)=v:=if_neg (by omega)
   rw[i1,if_neg (show ¬(1099511627776:Int)<v by omega),decide_eq_false aa,decide_eq_false af]
   simp
end Go.aG
namespace Go.aG
open Go Go.du
theorem Xg{R:Type}{p:Nat→Bool}{f:Nat→R}{b:Nat→Unit→Step R Unit}(ad: ∀i c,b i c=bif p i then .ret (f i)else .bP ()):
 ∀(n k:Nat),bS b k n ()=match(List.range' k n).find? p with|some i=>.inl (f i)|none=>.inr ():=by
 intro n
 induction n with
 |zero=>intro k;rfl
 |succ n aO=>
  intro k;unfold bS;rw[ad,List.range'_succ,List.find?_cons]
  cases p k with
  |true=>rfl
  |false=>exact aO (k+1)
theorem Xh{x:ByteArray}{i:Nat}(h:i<x.size)(c:UInt8):(aK x (i:Int)==(c.toNat:Int))=(x[i]! ==c):=by
 obtain⟨_,e⟩:=yl h
 have a6:x[i]! =x.data.toList.getD i 0:=by
  rw[getElem!_pos x i h,List.getD_eq_getElem?_getD,List.getElem?_eq_getElem (show i<x.data.toList.length from h)]
  rfl
 rw[e,a6]
 generalize x.data.toList.getD i 0=a
 by_cases h:a=c
 ·subst h;simp
 ·have aa:(a==c)=false:=by simpa using h
  rw[aa,beq_eq_false_iff_ne];intro af;exact h (UInt8.toNat_inj.1 (by omega))
theorem NJ(x:ByteArray)(c:UInt8):eA x (c.toNat:Int)=match(List.range' 0 x.size).find? (fun i:Nat=>aK x (i:Int)==(c.toNat:Int))with|some i=>(i:Int)|none=> -1:=by
 have e:(List.range' 0 x.size).find? (fun i:Nat=>aK x (i:Int)==(c.toNat:Int))=(List.range x.size).find? fun i:Nat=>x[i]! ==(c.toNat:Int).toNat.toUInt8:=by
  rw[List.range_eq_range']
  have hc:((c.toNat:Int).toNat.toUInt8:UInt8)=c:=by rw[Int.toNat_natCast];exact UInt8.ofNat_toNat
  rw[hc]
  have: ∀l:List Nat,(∀i∈l,i<x.size)→l.find? (fun i:Nat=>aK x (i:Int)==(c.toNat:Int))=l.find? fun i:Nat=>x[i]! ==c:=by
   intro l
   induction l with
   |nil=>intro _;rfl
   |cons a l aO=>
    intro h;rw[List.find?_cons,List.find?_cons,Xh (h a (List.mem_cons_self ..)) c,aO fun i hi=>h i (List.mem_cons_of_mem _ hi)]
  exact this _ fun i hi=>by rw[List.mem_range'_1]at hi;omega
 rw[e]
 rfl
def cM(c:UInt8)(x:ByteArray):ByteArray × ByteArray × Bool:=match(List.range' 0 x.size).find? (fun i:Nat=>aK x (i:Int)==(c.toNat:Int))with
 |some i=>(x.extract 0 i,x.extract (i+1) x.size,true)
 |none=>(x,⟨#[]⟩,false)
theorem NK(c:UInt8):aK (⟨#[c]⟩:ByteArray) 0=(c.toNat:Int):=rfl
theorem BB{α:Type}{x:ByteArray}(hx:bD x)(c:UInt8)(K:ByteArray→ByteArray→Bool→α):oU c x K=K (cM c x).1 (cM c x).2.1 (cM c x).2.2:=by
 unfold bD at hx
 have Xi:(bif decide (eA x (aK (⟨#[c]⟩:ByteArray) 0)≥0)then K (bh x none (some (eA x (aK (⟨#[c]⟩:ByteArray) 0)))) (bh x (some (IntKind.wrap .i64 (eA x (aK (⟨#[c]⟩:ByteArray) 0)+(1:Int)))) none) true else K x (⟨#[]⟩:ByteArray) false)=K (cM c x).1 (cM c x).2.1 (cM c x).2.2:=by
  rw[NK,NJ];unfold cM
  cases hf:(List.range' 0 x.size).find? (fun i:Nat=>aK x (i:Int)==(c.toNat:Int))with
  |none=>rfl
  |some i=>
   have hi:=List.mem_of_find?_eq_some hf
   rw[List.mem_range'_1]at hi
   have w:IntKind.wrap .i64 ((i:Int)+(1:Int))=((i+1:Nat):Int):=by rw[eM _ (by omega) (by omega)];omega
   dsimp only;rw[decide_eq_true (show(i:Int)≥0 by omega),cond_true,w]
   show K (x.extract 0 ((i:Int)).toNat) (x.extract (((i+1:Nat):Int)).toNat x.size) true=_;rw[Int.toNat_natCast,Int.toNat_natCast]
 unfold oU
 rw[Xi]
 cases h:bm .eql (⟨#[c]⟩:ByteArray) x with
 |false=>rfl
 |true=>
  have h:bR (⟨#[c]⟩:ByteArray) x=true:=h
  rw[sZ]at h;subst h;rw[cond_true,decide_eq_true (show(0:Int)≥0 by decide),cond_true]
  have hf:cM c (⟨#[c]⟩:ByteArray)=((⟨#[c]⟩:ByteArray).extract 0 0,(⟨#[c]⟩:ByteArray).extract 1 1,true):=by
   unfold cM
   have:(List.range' 0 (⟨#[c]⟩:ByteArray).size).find? (fun i:Nat=>aK (⟨#[c]⟩:ByteArray) (i:Int)==(c.toNat:Int))=some 0:=by
    show(List.range' 0 1).find? _=_;rw[List.range'_succ,List.find?_cons]
    have:(aK (⟨#[c]⟩:ByteArray) ((0:Nat):Int)==(c.toNat:Int))=true:=by
     rw[beq_iff_eq];exact NK c
    rw[this]
   rw[this];rfl
  rw[hf];rfl
theorem HC{c:UInt8}{x:ByteArray}(hx:bD x):bD (cM c x).1∧bD (cM c x).2.1:=by
 unfold bD at hx
 unfold cM
 split
 ·unfold bD
  dsimp only;rw[ByteArray.size_extract,ByteArray.size_extract];omega
 ·exact⟨hx,Nat.zero_le _⟩
end Go.aG
namespace Go.aG
open Go Go.du
noncomputable def eD(u:UInt8):List UInt8:=(kq (u.toNat:Int)).data.toList
theorem HD(l:List UInt8):(l.map fun u=>(u.toNat:Int)).map (fun n=>UInt8.ofNat n.toNat)=l:=by
 rw[List.map_map]
 conv=>rhs;rw[←List.map_id l]
 apply List.map_congr_left
 intro u _
 show UInt8.ofNat ((u.toNat:Int)).toNat=u
 rw[Int.toNat_natCast]
 exact UInt8.ofNat_toNat
theorem NL(s:ByteArray):bytesOf (s.data.toList.map fun u=>(u.toNat:Int))=s:=mH (by rw[sS,HD])
theorem Xj(s:ByteArray): ∀(n k:Nat),k+n=s.size→(lv (fun i=>rq (aK s (i:Int))) k n).map (fun n=>UInt8.ofNat n.toNat)=(s.data.toList.drop k).flatMap eD:=by
 intro n
 induction n with
 |zero=>
  intro k aj;rw[List.drop_eq_nil_of_le (show s.data.toList.length≤k by have:s.data.toList.length=s.size:=rfl;omega)]
  rfl
 |succ n aO=>
  intro k aj
  have an:k<s.data.toList.length:=by have:s.data.toList.length=s.size:=rfl;omega
  rw[lv,List.map_append,aO (k+1) (by omega),List.drop_eq_getElem_cons an,List.flatMap_cons]
  congr 1
  have e:aK s (k:Int)=((s.data.toList[k]'an).toNat:Int):=by
   rw[(yl (s:=s) (by omega)).2,List.getD_eq_getElem?_getD,List.getElem?_eq_getElem an]
   rfl
  rw[e];show((eD _).map fun u=>(u.toNat:Int)).map _=_;rw[HD]
theorem x4(s:ByteArray):(lx s).data.toList=34::(s.data.toList.flatMap eD++[34]):=by
 unfold lx
 rw[sS,List.map_append,List.map_append,Xj s s.size 0 (by omega)]
 rfl
inductive BC (u:UInt8):Prop
 |one:eD u=[u]→u≠34→u≠92→BC u
 |two:eD u=[92,u]→(u=34∨u=92)→BC u
 |four (a b:UInt8):eD u=[92,120,a,b]→0≤gk (a.toNat:Int)→0≤gk (b.toNat:Int)→
  IntKind.wrap .u8 (bK .or .i64 (bK .shl .i64 (gk (a.toNat:Int)) (4:Int)) (gk (b.toNat:Int)))=(u.toNat:Int)→0≤gk (a.toNat:Int)→0≤gk (b.toNat:Int)→
  IntKind.wrap .u8 (IntKind.wrap .i64 ((IntKind.wrap .i64 ((16:Int)*gk (a.toNat:Int)))+gk (b.toNat:Int)))=(u.toNat:Int)→BC u
theorem Xk: ∀n:Nat,n<256→(eD (UInt8.ofNat n)=[UInt8.ofNat n]∧UInt8.ofNat n≠34∧UInt8.ofNat n≠92)∨(eD (UInt8.ofNat n)=[92,UInt8.ofNat n]∧(UInt8.ofNat n=34∨UInt8.ofNat n=92))∨
 (eD (UInt8.ofNat n)=[92,120,(eD (UInt8.ofNat n)).getD 2 0,(eD (UInt8.ofNat n)).getD 3 0]∧0≤gk (((eD (UInt8.ofNat n)).getD 2 0).toNat:Int)∧0≤gk (((eD (UInt8.ofNat n)).getD 3 0).toNat:Int)∧
  IntKind.wrap .u8 (bK .or .i64 (bK .shl .i64 (gk (((eD (UInt8.ofNat n)).getD 2 0).toNat:Int)) (4:Int)) (gk (((eD (UInt8.ofNat n)).getD 3 0).toNat:Int)))=(n:Int)∧0≤gk (((eD (UInt8.ofNat n)).getD 2 0).toNat:Int)∧0≤gk (((eD (UInt8.ofNat n)).getD 3 0).toNat:Int)∧
  IntKind.wrap .u8 (IntKind.wrap .i64 ((IntKind.wrap .i64 ((16:Int)*gk (((eD (UInt8.ofNat n)).getD 2 0).toNat:Int)))+gk (((eD (UInt8.ofNat n)).getD 3 0).toNat:Int)))=(n:Int)):=by decide+kernel
theorem NM(u:UInt8):BC u:=by
 have h:=Xk u.toNat (UInt8.toNat_lt u)
 rw[show UInt8.ofNat u.toNat=u from UInt8.ofNat_toNat]at h
 rcases h with⟨aa,af,ar⟩|⟨aa,af⟩|⟨aa,af,ar,aQ,bx,ct,dw⟩
 ·exact .one aa af ar
 ·exact .two aa af
 ·exact .four _ _ aa af ar aQ bx ct dw
theorem gA{x:ByteArray}{l:List UInt8}(h:x.data.toList=l)(k:Nat):aK x (k:Int)=((l.getD k 0).toNat:Int):=by
 subst h
 unfold aK
 rw[Int.toNat_natCast]
theorem kl{x:ByteArray}{l:List UInt8}(h:x.data.toList=l):x.size=l.length:=by subst h;rfl
theorem HE{x:ByteArray}{l:List UInt8}(h:x.data.toList=l)(k:Nat):(bh x none (some (k:Int))).data.toList=l.take k:=by
 subst h
 show(x.extract 0 ((k:Int)).toNat).data.toList=_
 rw[Int.toNat_natCast,ByteArray.data_extract,Array.toList_extract]
 simp[List.extract]
theorem HF{x:ByteArray}{l:List UInt8}(h:x.data.toList=l)(k:Nat):(bh x (some (k:Int)) none).data.toList=l.drop k:=by
 subst h
 show(x.extract ((k:Int)).toNat x.size).data.toList=_
 rw[Int.toNat_natCast,Ie]
theorem ne_nil{x:ByteArray}{a:UInt8}{l:List UInt8}(h:x.data.toList=a::l):bm .eql x (⟨#[]⟩:ByteArray)=false:=by
 show bR x ⟨#[]⟩=false
 rw[yM]
 intro e
 rw[e]at h
 cases h
theorem sO{a b:ByteArray}(h:a=b):bm .neq a b=false:=by
 show(!bR a b)=false
 rw[h,Dt]
 rfl
theorem uY{a b:UInt8}:(a.toNat:Int)=(b.toNat:Int)↔a=b:=by
 rw[Int.ofNat_inj,UInt8.toNat_inj]
theorem Xl{y:ByteArray}{u:UInt8}{t:List UInt8}(h:y.data.toList=eD u++t):fp y=((u.toNat:Int),((eD u).length:Int)):=by
 rcases NM u with⟨aa,af,ar⟩|⟨aa,af⟩|⟨a,b,aa,af,ar,aQ,bx,ct,dw⟩
 ·have an:y.data.toList=u::t:=by rw[h,aa];rfl
  have gR:aK y 0=(u.toNat:Int):=gA an 0
  have HG:(aK y 0==34)=false:=by rw[gR,beq_eq_false_iff_ne];exact fun e=>af (uY.1 (show(u.toNat:Int)=((34:UInt8).toNat:Int)from e))
  have Xm:(aK y 0 != 92)=true:=by rw[gR,bne_iff_ne];exact fun e=>ar (uY.1 (show(u.toNat:Int)=((92:UInt8).toNat:Int)from e))
  have aC:bm .neq (kq (aK y 0)) (bh y none (some 1))=false:=sO (mH (by
   have yj:(bh y none (some 1)).data.toList=List.take 1 (u::t):=HE an 1
   rw[gR,yj];show eD u=_;rw[aa]
   rfl))
  unfold fp;rw[ne_nil an,HG,Xm,aC,gR,aa];rfl
 ·have an:y.data.toList=92::u::t:=by rw[h,aa];rfl
  have gR:aK y 0=92:=gA an 0
  have ez:aK y 1=(u.toNat:Int):=gA an 1
  have ah:(y.size:Int)≥2:=by rw[kl an];simp only[List.length_cons];omega
  have aC:((aK y 1==34)||(aK y 1==92))=true:=by
   rw[ez]
   rcases af with e|e<;>subst e<;>rfl
  unfold fp;rw[ne_nil an,gR,aa];dsimp only;rw[aC,decide_eq_true ah,ez];rfl
 ·have an:y.data.toList=92::120::a::b::t:=by rw[h,aa];rfl
  have gR:aK y 0=92:=gA an 0
  have ez:aK y 1=120:=gA an 1
  have gB:aK y 2=(a.toNat:Int):=gA an 2
  have fE:aK y 3=(b.toNat:Int):=gA an 3
  have ah:(y.size:Int)≥4:=by rw[kl an];simp only[List.length_cons];omega
  have aC:bm .neq (kq (u.toNat:Int)) (bh y none (some 4))=false:=sO (mH (by
   have yj:(bh y none (some 4)).data.toList=List.take 4 (92::120::a::b::t):=HE an 4
   rw[yj];show eD u=_;rw[aa]
   rfl))
  unfold fp;rw[ne_nil an,gR,ez,gB,fE,aa];dsimp only;rw[decide_eq_true (show(y.size:Int)≥2 by omega),decide_eq_false (show ¬(y.size:Int)<4 by omega),decide_eq_false (show ¬gk (a.toNat:Int)<0 by omega),decide_eq_false (show ¬gk (b.toNat:Int)<0 by omega),aQ,aC]
  rfl
theorem NN(u:UInt8): ∃a l,eD u=a::l∧a≠34:=by
 rcases NM u with⟨aa,af,_⟩|⟨aa,_⟩|⟨a,b,aa,_⟩
 ·exact⟨_,_,aa,af⟩
 ·exact⟨_,_,aa,by decide⟩
 ·exact⟨_,_,aa,by decide⟩
theorem uZ(p l:List UInt8):(p++l).getD p.length 0=l.getD 0 0:=by
 rw[List.getD_eq_getElem?_getD,List.getElem?_append_right (Nat.le_refl _),Nat.sub_self,List.getD_eq_getElem?_getD]
theorem Xn{x:ByteArray}(hx:bD x){B:Int × List Int × Bool→Step (ByteArray × Int) (Int × List Int × Bool)}
 (gi: ∀aF,B aF=bif((decide (aF.1<(ByteArray.size x:Int)))&&((aK x aF.1) != 34))then(bif((fp (bh x (some aF.1) none)).2==0)then .ret (⟨#[]⟩,0)else bif !aF.2.2 then .bP ((IntKind.wrap .i64 (aF.1+(fp (bh x (some aF.1) none)).2)),(List.append aF.2.1 ([(fp (bh x (some aF.1) none)).1]:List Int)),true)else .bP ((IntKind.wrap .i64 (aF.1+(fp (bh x (some aF.1) none)).2)),(List.append aF.2.1 ([(fp (bh x (some aF.1) none)).1]:List Int)),aF.2.2))else .b9 (aF.1,aF.2.1,aF.2.2)):
 ∀(us pre:List UInt8) (acc:List Int) (jV:Bool) (f:Nat),x.data.toList=pre++(us.flatMap eD++[34])→us.length<f→
  ∃pQ,b3 B f ((pre.length:Int),acc,jV)= .inr (((x.size-1:Nat):Int),acc++us.map (fun u=>(u.toNat:Int)),pQ):=by
 intro us
 induction us with
 |nil=>
  intro pre acc jV f h hf;obtain⟨f,rfl⟩: ∃g,f=g+1:=⟨f-1,by omega⟩
  have b:aK x (pre.length:Int)=34:=by
   rw[gA h,uZ];rfl
  have ah:x.size=pre.length+1:=by rw[kl h];simp
  refine⟨jV,?_⟩
  unfold b3;rw[gi];dsimp only;rw[b];simp only[bne_self_eq_false,Bool.and_false,cond_false];rw[ah,Nat.add_sub_cancel,List.map_nil,List.append_nil]
 |cons u us aO=>
  intro pre acc jV f h hf;obtain⟨f,rfl⟩: ∃g,f=g+1:=⟨f-1,by omega⟩
  obtain⟨a,l,aI,hn⟩:=NN u;rw[List.flatMap_cons,List.append_assoc]at h
  have b:aK x (pre.length:Int)=(a.toNat:Int):=by
   rw[gA h,uZ,aI];rfl
  have HG:(aK x (pre.length:Int) != 34)=true:=by rw[b,bne_iff_ne];exact fun e=>hn (uY.1 (show(a.toNat:Int)=((34:UInt8).toNat:Int)from e))
  have ah:x.size=pre.length+((eD u).length+((us.flatMap eD).length+1)):=by rw[kl h];simp[List.length_append]
  have m:fp (bh x (some (pre.length:Int)) none)=((u.toNat:Int),((eD u).length:Int)):=Xl (t:=us.flatMap eD++[34]) (by
   rw[HF h,List.drop_append_of_le_length (Nat.le_refl _),List.drop_length,List.nil_append])
  have aH:0<(eD u).length:=by rw[aI];exact Nat.succ_pos _
  unfold bD at hx
  have w:IntKind.wrap .i64 ((pre.length:Int)+((eD u).length:Int))=(((pre++eD u).length:Nat):Int):=by
   rw[List.length_append,eM _ (by omega) (by omega)]
   omega
  obtain⟨pQ,hi⟩:=aO (pre++eD u) (acc++[(u.toNat:Int)]) (bif !jV then true else jV) f (by rw[List.append_assoc];exact h) (by simp only[List.length_cons]at hf;omega)
  refine⟨pQ,?_⟩
  unfold b3;rw[gi];dsimp only;rw[HG,decide_eq_true (show(pre.length:Int)<(x.size:Int)by omega),m]
  have n0:(((eD u).length:Int)==0)=false:=by rw[beq_eq_false_iff_ne];omega
  simp only[Bool.and_true,cond_true,n0,cond_false,w];rw[List.append_assoc]at hi
  cases jV
  ·exact hi
  ·exact hi
theorem Xo{x s:ByteArray}(hx:bD x)(h:x=lx s):vG x=(s,(x.size:Int)):=by
 have an:x.data.toList=34::(s.data.toList.flatMap eD++[34]):=by rw[h,x4]
 have gR:(aK x 0 != 34)=false:=by
  show(aK x ((0:Nat):Int) != 34)=false;rw[gA an 0];rfl
 have ah:x.size=1+((s.data.toList.flatMap eD).length+1):=by rw[kl an];simp;omega
 obtain⟨jV,hw⟩:=Xn hx (B:=fun aF=>bif((decide (aF.1<(ByteArray.size x:Int)))&&((aK x aF.1) != 34))then(bif((fp (bh x (some aF.1) none)).2==0)then .ret (⟨#[]⟩,0)else bif !aF.2.2 then .bP ((IntKind.wrap .i64 (aF.1+(fp (bh x (some aF.1) none)).2)),(List.append aF.2.1 ([(fp (bh x (some aF.1) none)).1]:List Int)),true)else .bP ((IntKind.wrap .i64 (aF.1+(fp (bh x (some aF.1) none)).2)),(List.append aF.2.1 ([(fp (bh x (some aF.1) none)).1]:List Int)),aF.2.2))else .b9 (aF.1,aF.2.1,aF.2.2)) (fun _=>rfl) s.data.toList [34] [] false cX an (by
  have:s.data.toList.length≤(s.data.toList.flatMap eD).length:=by
   generalize s.data.toList=us
   induction us with
   |nil=>exact Nat.le_refl _
   |cons u us aO=>
    obtain⟨a,l,aI,_⟩:=NN u;rw[List.flatMap_cons,List.length_append,aI];simp only[List.length_cons];omega
  unfold bD at hx;unfold cX
  omega)
 unfold vG
 rw[ne_nil an,gR]
 simp only[Bool.or_self,cond_false]
 show Sum.elim _ _ (b3 (fun aF=>bif((decide (aF.1<(ByteArray.size x:Int)))&&((aK x aF.1) != 34))then(bif((fp (bh x (some aF.1) none)).2==0)then .ret (⟨#[]⟩,0)else bif !aF.2.2 then .bP ((IntKind.wrap .i64 (aF.1+(fp (bh x (some aF.1) none)).2)),(List.append aF.2.1 ([(fp (bh x (some aF.1) none)).1]:List Int)),true)else .bP ((IntKind.wrap .i64 (aF.1+(fp (bh x (some aF.1) none)).2)),(List.append aF.2.1 ([(fp (bh x (some aF.1) none)).1]:List Int)),aF.2.2))else .b9 (aF.1,aF.2.1,aF.2.2):Int × List Int × Bool→Step (ByteArray × Int) (Int × List Int × Bool)) cX ((([34]:List UInt8).length:Int),[],false))=_
 rw[hw]
 unfold bD at hx
 have w:IntKind.wrap .i64 (((x.size-1:Nat):Int)+1)=(x.size:Int):=by rw[eM _ (by omega) (by omega)];omega
 dsimp only[Sum.elim]
 rw[decide_eq_false (show ¬((x.size-1:Nat):Int)≥(x.size:Int)by omega),cond_false,w,List.nil_append,NL]
theorem Xp{x s:ByteArray}(hx:bD x)(h:x=lx s)(ah:s.size≤60):oT x=(s,0):=by
 have an:x.data.toList=34::(s.data.toList.flatMap eD++[34]):=by rw[h,x4]
 have bl:x.size=1+((s.data.toList.flatMap eD).length+1):=by rw[kl an];simp;omega
 unfold oT
 rw[Xo hx h]
 dsimp only
 have n0:((x.size:Int)==0)=false:=by rw[beq_eq_false_iff_ne];omega
 rw[n0,bne_self_eq_false,decide_eq_false (show ¬(s.size:Int)>60 by omega)]
 rfl
end Go.aG
namespace Go.aG
open Go Go.du
noncomputable def BD(x:ByteArray)(v:cr):cr × Int:=bif(bm .eql x (⟨#[]⟩:ByteArray)||bm .neq (m17 v) x)then(⟨0,0,⟨#[]⟩⟩,4)else(v,0)
theorem u0(x:ByteArray)(v:cr):(bif bm .eql x (⟨#[]⟩:ByteArray)then(bif(bm .eql x (⟨#[]⟩:ByteArray)||bm .neq (⟨#[]⟩:ByteArray) x)then((⟨0,0,⟨#[]⟩⟩:cr),(4:Int))else(v,0))else(bif(bm .eql x (⟨#[]⟩:ByteArray)||bm .neq (m17 v) x)then((⟨0,0,⟨#[]⟩⟩:cr),(4:Int))else(v,0)))=BD x v:=by
 unfold BD
 cases bm .eql x (⟨#[]⟩:ByteArray)<;>rfl
noncomputable def sK(x:ByteArray):cr:=
 bif(bm .eql x (⟨#[110,111,110,101]⟩:ByteArray))then⟨0,0,⟨#[]⟩⟩
 else bif((bm .eql x (⟨#[116,114,117,101]⟩:ByteArray))||(bm .eql x (⟨#[102,97,108,115,101]⟩:ByteArray)))then(bif(bm .eql x (⟨#[116,114,117,101]⟩:ByteArray))then⟨1,1,⟨#[]⟩⟩else⟨1,0,⟨#[]⟩⟩)
 else bif((bm .neq x (⟨#[]⟩:ByteArray))&&((aK x (0:Int))==35))then⟨3,(fv (bh x (some (1:Int)) none)).1,⟨#[]⟩⟩
 else bif((bm .neq x (⟨#[]⟩:ByteArray))&&((aK x (0:Int))==34))then⟨4,0,(oT x).1⟩
 else⟨2,(fv x).1,⟨#[]⟩⟩
theorem Xq(x:ByteArray):kr x=BD x (sK x):=by
 unfold kr sK
 dsimp only
 cases (bm .eql x (⟨#[110,111,110,101]⟩:ByteArray))
 ·simp only[cond_false]
  cases ((bm .eql x (⟨#[116,114,117,101]⟩:ByteArray))||(bm .eql x (⟨#[102,97,108,115,101]⟩:ByteArray)))
  ·simp only[cond_false]
   cases ((bm .neq x (⟨#[]⟩:ByteArray))&&((aK x (0:Int))==35))
   ·simp only[cond_false]
    cases ((bm .neq x (⟨#[]⟩:ByteArray))&&((aK x (0:Int))==34))
    ·exact u0 x _
    ·exact u0 x _
   ·exact u0 x _
  ·simp only[cond_true]
   cases (bm .eql x (⟨#[116,114,117,101]⟩:ByteArray))
   ·exact u0 x _
   ·exact u0 x _
 ·exact u0 x _
end Go.aG
namespace Go.aG
open Go Go.du
def eK(c:UInt8)(x:ByteArray):Prop:=∀u∈x.data.toList,u≠c
theorem NO{f:Nat→Bool}: ∀(j n k:Nat),(∀i,i<j→f (k+i)=false)→f (k+j)=true→j<n→(List.range' k n).find? f=some (k+j):=by
 intro j
 induction j with
 |zero=>
  intro n k _ h hn;obtain⟨n,rfl⟩: ∃m,n=m+1:=⟨n-1,by omega⟩
  rw[List.range'_succ,List.find?_cons]
  rw[Nat.add_zero]at h;rw[h];rfl
 |succ j aO=>
  intro n k aI h hn;obtain⟨n,rfl⟩: ∃m,n=m+1:=⟨n-1,by omega⟩
  rw[List.range'_succ,List.find?_cons]
  have aP:=aI 0 (Nat.succ_pos _)
  rw[Nat.add_zero]at aP;rw[aP]
  have:=aO n (k+1) (fun i hi=>by have:=aI (i+1) (by omega);rwa[show k+1+i=k+(i+1)by omega]) (by rwa[show k+1+j=k+(j+1)by omega]) (by omega)
  rw[show k+(j+1)=k+1+j by omega]
  exact this
theorem NP{x:ByteArray}{l:List UInt8}(h:x.data.toList=l){c:UInt8}{i:Nat}(hi:i<l.length)(hc:l[i]≠c):(aK x (i:Int)==(c.toNat:Int))=false:=by
 rw[gA h,List.getD_eq_getElem?_getD,List.getElem?_eq_getElem hi,beq_eq_false_iff_ne]
 exact fun e=>hc (uY.1 e)
theorem pR{c:UInt8}{x p s:ByteArray}(h:x.data.toList=p.data.toList++c::s.data.toList)(ak:eK c p):cM c x=(p,s,true):=by
 have ah:x.size=p.size+(s.size+1):=by rw[kl h,List.length_append];rfl
 have n9:p.data.toList.length=p.size:=rfl
 have hf:(List.range' 0 x.size).find? (fun i:Nat=>aK x (i:Int)==(c.toNat:Int))=some (0+p.size):=by
  refine NO _ _ _ (fun i hi=>?_) ?_ (by omega)
  ·rw[Nat.zero_add]
   have h1:i<(p.data.toList++c::s.data.toList).length:=by rw[List.length_append];omega
   refine NP h h1 ?_
   rw[List.getElem_append_left (by omega)]
   exact ak _ (List.getElem_mem _)
  ·rw[Nat.zero_add]
   show(aK x (p.size:Int)==(c.toNat:Int))=true;rw[gA h,←n9,uZ,beq_iff_eq];rfl
 unfold cM
 rw[hf]
 dsimp only
 rw[Nat.zero_add]
 have aC:x.extract 0 p.size=p:=mH (by
  have:=HE h p.size
  have e:(bh x none (some (p.size:Int)))=x.extract 0 p.size:=by show x.extract 0 ((p.size:Int)).toNat=_;rw[Int.toNat_natCast]
  rw[←e,this,←n9,List.take_left])
 have a6:x.extract (p.size+1) x.size=s:=mH (by
  rw[Ie,h,←n9,←List.drop_drop,List.drop_left]
  rfl)
 rw[aC,a6]
theorem HH{c:UInt8}{x:ByteArray}(ak:eK c x):cM c x=(x,⟨#[]⟩,false):=by
 have hf:(List.range' 0 x.size).find? (fun i:Nat=>aK x (i:Int)==(c.toNat:Int))=none:=by
  rw[List.find?_eq_none]
  intro i hi;rw[List.mem_range'_1]at hi
  have h1:i<x.data.toList.length:=by have:x.data.toList.length=x.size:=rfl;omega
  rw[NP (l:=x.data.toList) rfl h1 (ak _ (List.getElem_mem _))];decide
 unfold cM
 rw[hf]
theorem jz(a b:ByteArray):(ByteArray.append a b).data.toList=a.data.toList++b.data.toList:=by
 show(a++b).data.toList=_
 rw[ByteArray.data_append,Array.toList_append]
theorem HI: ∀(f u:Nat),∀b∈fq f u,b≠32∧b≠46
 |0,_,b,h=>by cases h
 |f+1,u,b,h=>by
  have hd: ∀d:Nat,d<10→(UInt8.ofNat (48+d)≠32∧UInt8.ofNat (48+d)≠46):=by decide
  unfold fq at h
  cases hu:Nat.blt u 10 with
  |true=>
   rw[hu]at h;simp only[cond_true,List.mem_singleton]at h;subst h
   have:u<10:=by rw[Nat.blt_eq]at hu;exact hu
   exact hd u this
  |false=>
   rw[hu]at h;simp only[cond_false,List.mem_append,List.mem_singleton]at h
   rcases h with h|h
   ·exact HI f _ b h
   ·subst h
    exact hd _ (Nat.mod_lt _ (by decide))
theorem HJ(n:Int):eK 32 (m21 n)∧eK 46 (m21 n):=by
 have: ∀b∈(fr n).data.toList,b≠32∧b≠46:=by
  unfold fr
  cases decide (n<0)
  ·intro b h
   exact HI _ _ b (by simpa using h)
  ·intro b h
   have h:b=45∨b∈fq 20 n.natAbs:=by simpa using h
   rcases h with h|h
   ·subst h;decide
   ·exact HI _ _ b h
 exact⟨fun b h=>(this b h).1,fun b h=>(this b h).2⟩
theorem Xr{P:Int→Int→Bool}{x:ByteArray}: ∀(n k:Nat),kU P x k n=true→∀i,k≤i→i<k+n→P (aK x (i:Int)) (i:Int)=false:=by
 intro n
 induction n with
 |zero=>intro k _ i aa af;omega
 |succ n aO=>
  intro k h i aa af;unfold kU at h
  cases ak:P (aK x (k:Int)) (k:Int)with
  |true=>
   rw[ak]at h;simp at h
  |false=>
   rw[ak]at h
   rcases Nat.eq_or_lt_of_le aa with e|e
   ·subst e;exact ak
   ·exact aO (k+1) (by simpa using h) i e (by omega)
theorem x5{x:ByteArray}{c:UInt8}{P:Int→Int→Bool}(h:kU P x 0 x.size=true)(hc: ∀i:Int,P (c.toNat:Int) i=true):eK c x:=by
 intro u hu e
 subst e
 obtain⟨i,hi,e⟩:=List.getElem_of_mem hu
 have:=Xr _ _ h i (Nat.zero_le _) (by have:x.data.toList.length=x.size:=rfl;omega)
 rw[gA (l:=x.data.toList) rfl,List.getD_eq_getElem?_getD,List.getElem?_eq_getElem hi]at this
 have a6:(((some (x.data.toList[i])).getD 0).toNat:Int)=(u.toNat:Int):=by rw[e];rfl
 rw[a6,hc]at this
 cases this
theorem HK{x:ByteArray}(h:valid x=true):eK 32 x∧eK 46 x:=by
 unfold valid at h
 have h:kU mO x 0 x.size=true:=by
  cases hc:((decide ((ByteArray.size x:Int)<1))||(decide ((ByteArray.size x:Int)>24)))with
  |true=>rw[hc]at h;cases h
  |false=>rw[hc]at h;exact h
 have aC: ∀i:Int,mO (((32:UInt8).toNat:Int)) i=true:=by
  intro i;show((!(decide ((32:Int)≥97)&&decide ((32:Int)≤122)))&&((i==0)||((((32:Int) != 95)&&((32:Int) != 45))&&((decide ((32:Int)<48))||(decide ((32:Int)>57))))))=true
  cases (i==0)<;>rfl
 have a6: ∀i:Int,mO (((46:UInt8).toNat:Int)) i=true:=by
  intro i;show((!(decide ((46:Int)≥97)&&decide ((46:Int)≤122)))&&((i==0)||((((46:Int) != 95)&&((46:Int) != 45))&&((decide ((46:Int)<48))||(decide ((46:Int)>57))))))=true
  cases (i==0)<;>rfl
 exact⟨x5 h aC,x5 h a6⟩
theorem Xs{x:ByteArray}(h:seen x=true):eK 32 x:=by
 unfold seen at h
 rw[Bool.and_eq_true]at h
 exact x5 h.1 fun _=>rfl
end Go.aG
namespace Go.aG
open Go Go.du
noncomputable def nS(i:Nat):ByteArray:=List.getD vu i (ed .str)
def pS:List ByteArray:=([⟨#[116,105,99,107]⟩,⟨#[115,101,110,115,101]⟩,⟨#[101,118,101,110,116]⟩,⟨#[110,111,105,115,101]⟩,⟨#[113,117,105,101,116]⟩,⟨#[111,102,102]⟩,⟨#[111,110]⟩,⟨#[99,117,116]⟩,⟨#[106,111,105,110]⟩,⟨#[99,114,97,115,104]⟩,⟨#[99,108,111,99,107]⟩,⟨#[97,115,107]⟩,⟨#[101,110,101,114,103,121]⟩,⟨#[109,111,118,101]⟩,⟨#[108,111,115,101]⟩,⟨#[116,119,105,99,101]⟩]:List ByteArray)
theorem BE: ∀i:Nat,i<16→gU pS i=nS i:=by decide+kernel
theorem Xt: ∀i:Nat,i<16→∀j:Nat,j<16→nS i=nS j→i=j:=by decide+kernel
def BF:aT:=(⟨0,0,0,⟨0,⟨#[]⟩,⟨#[]⟩⟩,⟨0,0,⟨#[]⟩⟩,⟨0,⟨#[]⟩,⟨#[]⟩⟩,⟨⟨#[]⟩,⟨0,0,⟨0,⟨#[]⟩,⟨#[]⟩⟩,⟨#[]⟩,⟨0,0,⟨#[]⟩⟩,⟨#[]⟩⟩⟩⟩:aT)
noncomputable def l2(x:ByteArray)(k:Int)(b:ByteArray):Bool:=((m12 k b).2&&((m6 (m12 k b).1).2==0))&&bm .eql (m6 (m12 k b).1).1 x
theorem Xu(x:ByteArray):m5 x=oU 32 x fun a b _=>Sum.elim (fun r=>r) (fun _=>(BF,4)) (bS (fun(i:Nat) (_:Unit)=>(bif bm .neq (gU pS (Int.toNat (i:Int))) a then .bP ()else bif l2 x (IntKind.wrap .i64 ((i:Int)+(1:Int))) b then .ret ((m12 (IntKind.wrap .i64 ((i:Int)+(1:Int))) b).1,0)else .bP ():Step (aT × Int) Unit)) 0 16 ()):=by kernel_rfl
theorem NQ{x:ByteArray}(hx:bD x):m5 x=match(List.range' 0 16).find? (fun i:Nat=>!bm .neq (gU pS i) (cM 32 x).1&&l2 x (IntKind.wrap .i64 ((i:Int)+(1:Int))) (cM 32 x).2.1)with
 |some i=>((m12 (IntKind.wrap .i64 ((i:Int)+(1:Int))) (cM 32 x).2.1).1,0)
 |none=>(BF,4):=by
 rw[Xu,BB hx]
 rw[Xg (p:=fun i:Nat=>!bm .neq (gU pS i) (cM 32 x).1&&l2 x (IntKind.wrap .i64 ((i:Int)+(1:Int))) (cM 32 x).2.1) (f:=fun i:Nat=>((m12 (IntKind.wrap .i64 ((i:Int)+(1:Int))) (cM 32 x).2.1).1,0)) (fun i c=>by
  rw[Int.toNat_natCast]
  cases bm .neq (gU pS i) (cM 32 x).1<;>rfl)]
 cases (List.range' 0 16).find? (fun i:Nat=>!bm .neq (gU pS i) (cM 32 x).1&&l2 x (IntKind.wrap .i64 ((i:Int)+(1:Int))) (cM 32 x).2.1)<;>rfl
theorem x6{a b:ByteArray}(h:a≠b):bm .neq a b=true:=by
 show(!bR a b)=true
 rw[Bool.not_eq_true',yM]
 exact h
theorem Xv{x:ByteArray}(hx:bD x)(h: ∀i:Nat,i<16→nS i≠(cM 32 x).1):m5 x=(BF,4):=by
 rw[NQ hx]
 have:(List.range' 0 16).find? (fun i:Nat=>!bm .neq (gU pS i) (cM 32 x).1&&l2 x (IntKind.wrap .i64 ((i:Int)+(1:Int))) (cM 32 x).2.1)=none:=by
  rw[List.find?_eq_none]
  intro i hi;rw[List.mem_range'_1]at hi;rw[BE i (by omega),x6 (h i (by omega))]
  simp
 rw[this]
theorem HL{k:Nat}(h:k<16):IntKind.wrap .i64 ((k:Int)+(1:Int))=((k+1:Nat):Int):=by rw[eM _ (by omega) (by omega)];omega
theorem NR{x:ByteArray}(hx:bD x){k:Nat}(aj:k<16)(h:nS k=(cM 32 x).1):m5 x=bif l2 x ((k+1:Nat):Int) (cM 32 x).2.1 then((m12 ((k+1:Nat):Int) (cM 32 x).2.1).1,0)else(BF,4):=by
 rw[NQ hx]
 have bX: ∀i:Nat,i<16→i≠k→nS i≠(cM 32 x).1:=fun i hi qH e=>qH (Xt i hi k aj (e.trans h.symm))
 cases aI:l2 x ((k+1:Nat):Int) (cM 32 x).2.1 with
 |true=>
  have:(List.range' 0 16).find? (fun i:Nat=>!bm .neq (gU pS i) (cM 32 x).1&&l2 x (IntKind.wrap .i64 ((i:Int)+(1:Int))) (cM 32 x).2.1)=some (0+k):=by
   refine NO _ _ _ (fun i hi=>?_) ?_ aj
   ·rw[Nat.zero_add,BE i (by omega),x6 (bX i (by omega) (by omega))]
    rfl
   ·rw[Nat.zero_add,BE k aj,sO h,HL aj,aI]
    rfl
  rw[this];dsimp only;rw[Nat.zero_add,HL aj];rfl
 |false=>
  have:(List.range' 0 16).find? (fun i:Nat=>!bm .neq (gU pS i) (cM 32 x).1&&l2 x (IntKind.wrap .i64 ((i:Int)+(1:Int))) (cM 32 x).2.1)=none:=by
   rw[List.find?_eq_none]
   intro i hi;rw[List.mem_range'_1]at hi;rw[BE i (by omega)]
   by_cases qH:i=k
   ·subst qH
    rw[HL aj,aI];simp
   ·rw[x6 (bX i (by omega) qH)]
    simp
  rw[this];rfl
end Go.aG
namespace Go.aG
open Go Go.du
def HM(a:aT)(x:ByteArray):Prop:=(fj a).2=0∧(fj a).1=x
theorem NS{a:aT}{x:ByteArray}(h:HM a x):(nX a).2=0∧(nX a).1=x:=by
 obtain⟨aa,af⟩:=h
 have e:fj a=nX a:=by
  revert aa;unfold fj
  cases ((decide (a.kind<1))||(decide (a.kind>16)))
  ·simp only[cond_false]
   cases vv (m13 a) a
   ·intro _;rfl
   ·intro h;exact absurd h (show ¬(1:Int)=0 by decide)
  ·intro h;exact absurd h (show ¬(7:Int)=0 by decide)
 rw[←e]
 exact⟨aa,af⟩
theorem HN(d:Int)(c n:ByteArray):(m18 d c n).data.toList=(m21 d).data.toList++46::(c.data.toList++46::n.data.toList):=by
 unfold m18
 simp only[jz]
 simp
theorem Xw{d:Int}{c n:ByteArray}(hc:valid c=true)(hn:valid n=true):eK 32 (m18 d c n):=by
 intro u hu
 rw[HN]at hu
 simp only[List.mem_append,List.mem_cons]at hu
 rcases hu with h|h|h|h|h
 ·exact(HJ d).1 u h
 ·subst h;decide
 ·exact(HK hc).1 u h
 ·subst h;decide
 ·exact(HK hn).1 u h
theorem Xx{d:Int}{c n:ByteArray}(hc:valid c=true):cM 46 (m18 d c n)=(m21 d,ByteArray.append (ByteArray.append c ⟨#[46]⟩) n,true)∧cM 46 (ByteArray.append (ByteArray.append c ⟨#[46]⟩) n)=(c,n,true):=by
 refine⟨pR ?_ (HJ d).2,pR ?_ (HK hc).2⟩
 ·rw[HN]
  simp only[jz];simp
 ·simp only[jz]
  simp
theorem HO{P S:ByteArray}(mN:eK 32 P):cM 32 (ByteArray.append (ByteArray.append P ⟨#[32]⟩) S)=(P,S,true):=pR (by simp only[jz];simp) mN
end Go.aG
namespace Go.aG
open Go Go.du
theorem NT(K:Int):eK 32 (h0 K):=by
 have: ∀j:Nat,∀u∈(List.getD vu j (ed .str)).data.toList,u≠32:=by
  intro j
  rcases Nat.lt_or_ge j 16 with h|h
  ·revert j
   decide+kernel
  ·rw[List.getD_eq_getElem?_getD,List.getElem?_eq_none (by exact h)]
   intro u hu;cases hu
 exact this _
end Go.aG
namespace Go.aG
open Go Go.du
theorem NU(a:ByteArray):List.length (dc.den .eY a)=a.size:=by
 show(a.data.toList.map _).length=_
 rw[List.length_map]
 rfl
theorem Xy{R A A':Type}{b:Nat→A→Step R A}{b':Nat→A'→Step R A'}(I:A→A'→Prop)(n:Nat)
 (h: ∀i a aW,i<n→I a aW→(∃r,b i a= .ret r∧b' i aW= .ret r)∨∃c kb,b i a= .bP c∧b' i aW= .bP kb∧I c kb):
 ∀(m k:Nat) (a:A) (aW:A'),k+m=n→I a aW→(∃r,bS b k m a= .inl r∧bS b' k m aW= .inl r)∨∃c kb,bS b k m a= .inr c∧bS b' k m aW= .inr kb∧I c kb:=by
 intro m
 induction m with
 |zero=>intro k a aW _ hi;exact .inr ⟨a,aW,rfl,rfl,hi⟩
 |succ m aO=>
  intro k a aW aj hi;unfold bS
  rcases h k a aW (by omega) hi with⟨r,aa,af⟩|⟨c,kb,aa,af,ar⟩
  ·rw[aa,af];exact .inl ⟨r,rfl,rfl⟩
  ·rw[aa,af];exact aO (k+1) c kb (by omega) ar
theorem BG{x:ByteArray}(h:valid x=true):x.size≤24:=by
 unfold valid at h
 cases hc:((decide ((ByteArray.size x:Int)<1))||(decide ((ByteArray.size x:Int)>24)))with
 |true=>rw[hc]at h;cases h
 |false=>
  simp only[Bool.or_eq_false_iff,decide_eq_false_iff_not]at hc;omega
theorem Xz{x:ByteArray}(h:seen x=true):x.size≤1000:=by
 unfold seen at h
 simp only[Bool.and_eq_true,decide_eq_true_eq]at h
 omega
theorem iv{c:Bool}{x y:ByteArray × Int}{n:Nat}(hx:c=true→x.1.size≤n)(ax:c=false→y.1.size≤n):(bif c then x else y).1.size≤n:=by
 cases c with
 |true=>exact hx rfl
 |false=>exact ax rfl
theorem u1{a b:Bool}(h:(!a|| !b)=false):a=true∧b=true:=by
 cases a<;>cases b<;>first|exact⟨rfl,rfl⟩|cases h
theorem XA{a:aT}(aI:gF a):(nX a).1.size≤2100000:=by
 have z0: ∀k:Int,((⟨#[]⟩,k):ByteArray × Int).1.size≤2100000:=fun _=>Nat.zero_le _
 have Qo:ByteArray.size (⟨#[32]⟩:ByteArray)=1:=rfl
 have Qp:=p1 a.n
 have sm:=p1 a.m
 have Qr:=IL a.kind
 have cH:=IC a.value
 have s0: ∀(d:Int) (c n:ByteArray),(!(valid c)|| !(valid n))=false→(m18 d c n).size≤71:=fun d c n h=>by
  have aa:=BG (u1 h).1
  have af:=BG (u1 h).2
  have:=yH d c n
  omega
 unfold nX
 refine iv (fun _=>iv (fun _=>z0 _) fun _=>iv (fun _=>z0 _) fun _=>iv (fun _=>z0 _) fun av=>iv (fun _=>z0 _) fun _=>iv (fun _=>z0 _) fun _=>?_) fun _=>
  iv (fun _=>iv (fun _=>z0 _) fun _=>iv (fun _=>z0 _) fun _=>iv (fun _=>z0 _) fun av=>?_) fun _=>
  iv (fun _=>iv (fun _=>z0 _) fun _=>iv (fun _=>z0 _) fun aH=>?_) fun _=>
  iv (fun _=>iv (fun _=>z0 _) fun _=>?_) fun _=>
  iv (fun _=>iv (fun _=>z0 _) fun _=>?_) fun _=>iv (fun _=>z0 _) fun _=>?_
 ·have:=s0 a.key.dev _ _ av
  simp only[gG];omega
 ·have:=s0 a.event.dev _ _ av
  simp only[gG];omega
 ·unfold yE at aH
  rw[Bool.or_eq_false_iff,Bool.not_eq_false']at aH
  have aa:=Cf aI.q aH.1
  have af:=IE (m20 a.asked.request)
  have ar:=Xz aH.2
  simp only[gG];omega
 ·simp only[gG]
  omega
 ·show(h0 a.kind).size≤_
  omega
 ·simp only[gG]
  omega
theorem NV{a:aT}(aI:gF a):(fj a).1.size≤2100000:=by
 have z0: ∀k:Int,((⟨#[]⟩,k):ByteArray × Int).1.size≤2100000:=fun _=>Nat.zero_le _
 unfold fj
 exact iv (fun _=>z0 _) fun _=>iv (fun _=>z0 _) fun _=>XA aI
theorem XB{a:aT}(aI:gF a):(m6 a).1.size≤2100000:=by
 rw[Ce aI]
 exact NV aI
theorem XC{l:List aT}{i:Nat}(hi:i<Int.toNat (l.length:Int)):List.getD l (Int.toNat (i:Int)) (ed .aT)∈l:=by
 rw[Int.toNat_natCast]at hi
 rw[Int.toNat_natCast,List.getD_eq_getElem?_getD,List.getElem?_eq_getElem hi]
 exact List.getElem_mem _
theorem Pj{l:List aT}(h: ∀a∈l,gF a)(an:l.length≤100):yW l:=by
 unfold yW
 refine⟨fun i d=>d.1.length≤i*2100001,Nat.zero_le _,fun i d hi hd=>?_⟩
 have aI:=h _ (XC hi)
 rw[Int.toNat_natCast]at hi
 generalize List.getD l (Int.toNat (i:Int)) (ed .aT)=x at aI⊢
 refine⟨vb aI,fun bl=>?_⟩
 have ah:=XB aI
 have hd:d.1.length≤i*2100001:=hd
 have ez:i*2100001≤99*2100001:=Nat.mul_le_mul_right _ (by omega)
 have aC:List.length (List.append d.1 (dc.den .eY (m6 x).1))=d.1.length+(m6 x).1.size:=by rw[List.append_eq,List.length_append];exact congrArg _ (NU _)
 have a6:List.length (List.append (List.append d.1 (dc.den .eY (m6 x).1)) ([10]:List Int))=d.1.length+(m6 x).1.size+1:=by rw[List.append_eq,List.length_append,aC];rfl
 have ck:List.length (dc.den .eY (m6 x).1)=(m6 x).1.size:=NU _
 have key: ∀v:Bool,(List.length (List.append d.1 (dc.den .eY (m6 x).1))+List.length ([10]:List Int)≤maxLen∧(List.length (List.append d.1 (dc.den .eY (m6 x).1))+List.length ([10]:List Int))*1≤140737488355328)∧(List.append (List.append d.1 (dc.den .eY (m6 x).1)) ([10]:List Int),v).1.length≤(i+1)*2100001:=fun v=>by
  rw[aC];show(_+1≤maxLen∧(_+1)*1≤140737488355328)∧List.length (List.append (List.append d.1 (dc.den .eY (m6 x).1)) ([10]:List Int))≤_;rw[a6];unfold maxLen;omega
 have NW:List.length d.1+List.length (dc.den .eY (m6 x).1)≤maxLen∧(List.length d.1+List.length (dc.den .eY (m6 x).1))*1≤140737488355328:=by
  rw[ck];unfold maxLen;omega
 exact⟨fun _=>⟨NW,⟨fun q=>(by cases q),fun _=>key true⟩⟩,fun _=>⟨NW,⟨fun _=>key true,fun _=>key d.2⟩⟩⟩
end Go.aG
namespace Go.aG
open Go Go.du
theorem XD{x:ByteArray}(h:x.size=0):x=⟨#[]⟩:=mH (List.eq_nil_of_length_eq_zero h)
theorem BH(s:ByteArray)(a b:Nat):(s.extract a b).data.toList=(s.data.toList.take b).drop a:=by
 rw[ByteArray.data_extract,Array.toList_extract,List.drop_take]
theorem XE(c:UInt8)(x:ByteArray):(eA x (c.toNat:Int)= -1∧eK c x)∨∃q:Nat,eA x (c.toNat:Int)=(q:Int)∧q<x.size∧eK c (x.extract 0 q)∧x.data.toList=(x.extract 0 q).data.toList++c::x.data.toList.drop (q+1):=by
 rw[NJ]
 cases hf:(List.range' 0 x.size).find? (fun i:Nat=>aK x (i:Int)==(c.toNat:Int))with
 |none=>
  refine .inl ⟨rfl,fun u hu e=>?_⟩
  subst e;obtain⟨i,hi,he⟩:=List.getElem_of_mem hu
  have:=List.find?_eq_none.1 hf i (by rw[List.mem_range'_1];exact⟨Nat.zero_le _,by rw[Nat.zero_add];exact hi⟩)
  rw[gA rfl,List.getD_eq_getElem?_getD,List.getElem?_eq_getElem hi,Option.getD_some,he]at this
  simp at this
 |some q=>
  obtain⟨aa,af,ar⟩:=List.find?_range'_eq_some.1 hf
  rw[List.mem_range'_1,Nat.zero_add]at af
  have aH:q<x.data.toList.length:=af.2
  rw[gA rfl,List.getD_eq_getElem?_getD,List.getElem?_eq_getElem aH,Option.getD_some,beq_iff_eq,uY]at aa
  refine .inr ⟨q,rfl,af.2,fun u hu e=>?_,?_⟩
  ·subst e
   rw[BH,List.drop_zero]at hu;obtain⟨i,hi,he⟩:=List.getElem_of_mem hu;rw[List.length_take]at hi
   have h1:i<x.data.toList.length:=by omega
   rw[List.getElem_take]at he
   have:=ar i (Nat.zero_le _) (by omega)
   rw[gA rfl,List.getD_eq_getElem?_getD,List.getElem?_eq_getElem h1,Option.getD_some,he]at this
   simp at this
  ·rw[BH,List.drop_zero]
   have e:x.data.toList=x.data.toList.take q++x.data.toList.drop q:=(List.take_append_drop q _).symm
   rw[List.drop_eq_getElem_cons aH,aa]at e;exact e
noncomputable def iw:Nat→ByteArray→Int→List aT→List aT × Int × Int
 |0,_,_,l=>(l,0,0)
 |f+1,s,n,l=>bif bm .neq s (⟨#[]⟩:ByteArray)then
  (bif((bm .eql (cM 10 s).1 (⟨#[]⟩:ByteArray))||((aK (cM 10 s).1 (0:Int))==35))then iw f (cM 10 s).2.1 (n+1) l
   else bif((m5 (cM 10 s).1).2 != 0)then([],n,4)else iw f (cM 10 s).2.1 (n+1) (List.append l [(m5 (cM 10 s).1).1]))
  else(l,0,0)
theorem XF{c:UInt8}{s:ByteArray}(h:s≠⟨#[]⟩):(cM c s).2.1.size<s.size:=by
 have aP:0<s.size:=Nat.pos_of_ne_zero fun e=>h (XD e)
 unfold cM
 cases (List.range' 0 s.size).find? (fun i:Nat=>aK s (i:Int)==(c.toNat:Int))with
 |none=>exact aP
 |some i=>
  show(s.extract (i+1) s.size).size<_;rw[ByteArray.size_extract];omega
theorem XG(x:ByteArray):bm .neq x (⟨#[]⟩:ByteArray)=true↔x≠⟨#[]⟩:=by
 show(!bR x ⟨#[]⟩)=true↔_
 simp
def Left(x:ByteArray)(line:ByteArray)(done:Bool)(pos:Int)(s:ByteArray):Prop:=
 eK 10 line∧(bif done then s=line else False)∨eK 10 line∧done=false∧∃p:Nat,pos=(p:Int)∧p≤x.size∧s.data.toList=line.data.toList++10::x.data.toList.drop p
noncomputable def pT(x0:ByteArray)(aF:Int × ByteArray × Bool × (List aT) × Bool × Int):Step ((List aT) × Int × Int) (Int × ByteArray × Bool × (List aT) × Bool × Int):=
 bif aF.2.2.1 then
  let aM:Int→(List aT)→Step ((List aT) × Int × Int) (Int × ByteArray × Bool × (List aT) × Bool × Int):=fun v12 ee=>
   let aM:ByteArray→Bool→Bool→Int→Step ((List aT) × Int × Int) (Int × ByteArray × Bool × (List aT) × Bool × Int):=fun fo db v20 v21=>
    .bP (v12,fo,db,ee,v20,v21)
   bif aF.2.2.2.2.1 then
    aM (⟨#[]⟩:ByteArray) false aF.2.2.2.2.1 aF.2.2.2.2.2
   else
    let db:=iA (bh x0 (some aF.2.2.2.2.2) none) (10:Int)
    bif(decide (db<0))then
     aM (bh x0 (some aF.2.2.2.2.2) none) true true aF.2.2.2.2.2
    else
     aM (bh x0 (some aF.2.2.2.2.2) (some (IntKind.wrap .i64 (aF.2.2.2.2.2+db)))) true aF.2.2.2.2.1 (IntKind.wrap .i64 (aF.2.2.2.2.2+(IntKind.wrap .i64 (db+(1:Int)))))
  let v12:Int:=IntKind.wrap .i64 (aF.1+(1:Int))
  bif((bm .eql aF.2.1 (⟨#[]⟩:ByteArray))||((aK aF.2.1 (0:Int))==35))then
   aM v12 aF.2.2.2.1
  else
   let ee:=m5 aF.2.1
   bif(ee.2 != 0)then
    .ret ([],v12,4)
   else
    aM v12 (List.append aF.2.2.2.1 ([ee.1]:List aT))
 else
  .b9 (aF.1,aF.2.1,aF.2.2.1,aF.2.2.2.1,aF.2.2.2.2.1,aF.2.2.2.2.2)
noncomputable def x7(r:((List aT) × Int × Int)⊕(Int × ByteArray × Bool × (List aT) × Bool × Int)):(List aT) × Int × Int:=Sum.elim (fun r=>r) (fun cG=>(cG.2.2.2.1,0,0)) r
noncomputable def sL(x:ByteArray)(p:Nat)(cnt:Int)(l:List aT):Int × ByteArray × Bool × (List aT) × Bool × Int:=
 bif decide (eA (bh x (some (p:Int)) none) 10<0)then(cnt,bh x (some (p:Int)) none,true,l,true,(p:Int))
 else(cnt,bh x (some (p:Int)) (some ((p:Int)+eA (bh x (some (p:Int)) none) 10)),true,l,false,(p:Int)+(eA (bh x (some (p:Int)) none) 10+1))
noncomputable def lp(line:ByteArray)(n:Int)(l:List aT):(List aT × Int × Int)⊕List aT:=
 bif((bm .eql line (⟨#[]⟩:ByteArray))||((aK line (0:Int))==35))then .inr l else bif((m5 line).2 != 0)then .inl ([],n,4)else .inr (List.append l [(m5 line).1])
theorem u2{f:Nat}{s line rest:ByteArray}{n:Int}{l:List aT}(ah:s≠⟨#[]⟩)(aa:(cM 10 s).1=line)(af:(cM 10 s).2.1=rest):iw (f+1) s n l=match lp line n l with| .inl r=>r| .inr eB=>iw f rest (n+1) eB:=by
 conv=>lhs;unfold iw
 unfold lp
 rw[(XG s).2 ah,cond_true,aa,af]
 cases ((bm .eql line (⟨#[]⟩:ByteArray))||((aK line (0:Int))==35))with
 |true=>rfl
 |false=>
  rw[cond_false,cond_false]
  cases ((m5 line).2 != 0)<;>rfl
theorem XH{x line:ByteArray}{cnt pos:Int}{l:List aT}(hc:0≤cnt∧cnt≤2000000):pT x (cnt,line,true,l,true,pos)=match lp line (cnt+1) l with| .inl r=>.ret r| .inr eB=>.bP (cnt+1,⟨#[]⟩,false,eB,true,pos):=by
 have w:IntKind.wrap .i64 (cnt+1)=cnt+1:=eM _ (by omega) (by omega)
 unfold pT lp
 dsimp only
 rw[w,cond_true]
 cases ((bm .eql line (⟨#[]⟩:ByteArray))||((aK line (0:Int))==35))with
 |true=>rfl
 |false=>
  rw[cond_false,cond_false]
  cases ((m5 line).2 != 0)<;>rfl
theorem XI{x line:ByteArray}{cnt:Int}{p:Nat}{l:List aT}(hc:0≤cnt∧cnt≤2000000)(ak:p≤x.size)(hx:x.size≤1048576):pT x (cnt,line,true,l,false,(p:Int))=match lp line (cnt+1) l with| .inl r=>.ret r| .inr eB=>.bP (sL x p (cnt+1) eB):=by
 have w:IntKind.wrap .i64 (cnt+1)=cnt+1:=eM _ (by omega) (by omega)
 have ae:=p2 (bh x (some (p:Int)) none) 10
 rw[yS]at ae
 have e:iA (bh x (some (p:Int)) none) 10=eA (bh x (some (p:Int)) none) 10:=rfl
 unfold pT lp sL
 dsimp only
 rw[w,cond_true,e]
 generalize eA (bh x (some (p:Int)) none) 10=q at ae⊢
 have c0:IntKind.wrap .i64 ((p:Int)+q)=p+q:=eM _ (by omega) (by omega)
 have jE:IntKind.wrap .i64 (q+1)=q+1:=eM _ (by omega) (by omega)
 have rF:IntKind.wrap .i64 ((p:Int)+(q+1))=p+(q+1):=eM _ (by omega) (by omega)
 rw[c0,jE,rF]
 cases ((bm .eql line (⟨#[]⟩:ByteArray))||((aK line (0:Int))==35))with
 |true=>cases decide (q<0)<;>rfl
 |false=>
  rw[cond_false,cond_false]
  cases ((m5 line).2 != 0)with
  |true=>rfl
  |false=>cases decide (q<0)<;>rfl
theorem HP(x:ByteArray)(p:Nat):(bh x (some (p:Int)) none).data.toList=x.data.toList.drop p:=HF rfl p
theorem NY{x r:ByteArray}{p:Nat}{cnt:Int}{l:List aT}(ae:r.data.toList=x.data.toList.drop p)(ak:p≤x.size):
 ∃line done pos,sL x p cnt l=(cnt,line,true,l,done,pos)∧Left x line done pos r:=by
 have XJ:bh x (some (p:Int)) none=r:=mH (by rw[HP,ae])
 unfold sL
 rw[XJ]
 rcases XE 10 r with⟨aa,af⟩|⟨q,aa,af,ar,aQ⟩
 ·have aa:eA r 10= -1:=aa
  rw[aa,decide_eq_true (by decide),cond_true]
  exact⟨_,_,_,rfl,.inl ⟨af,rfl⟩⟩
 ·have aa:eA r 10=(q:Int):=aa
  rw[aa,decide_eq_false (by omega),cond_false]
  have el:bh x (some (p:Int)) (some ((p:Int)+(q:Int)))=r.extract 0 q:=mH (by
   show(x.extract ((p:Int)).toNat ((p:Int)+(q:Int)).toNat).data.toList=_
   rw[BH,BH,ae,List.drop_zero,show((p:Int)+(q:Int)).toNat=p+q by omega,Int.toNat_natCast,List.drop_take,show p+q-p=q by omega])
  rw[el];refine⟨_,_,_,rfl,.inr ⟨ar,rfl,p+(q+1),by omega,?_,?_⟩⟩
  ·have:r.size=x.size-p:=by rw[kl ae,List.length_drop];rfl
   omega
  ·rw[←List.drop_drop,←ae]
   exact aQ
theorem XK{x:ByteArray}(hx:x.size≤1048576): ∀(f:Nat) (s line:ByteArray) (done:Bool) (pos cnt:Int) (l:List aT) (g:Nat),s.size<f→f+1≤g→Left x line done pos s→0≤cnt→cnt+f≤1900000→
 x7 (b3 (pT x) g (cnt,line,true,l,done,pos))=iw f s (cnt+1) l:=by
 intro f
 induction f with
 |zero=>intro s line done pos cnt l g h;omega
 |succ f aO=>
  intro s line done pos cnt l g aa af ar aQ bx;obtain⟨g,rfl⟩: ∃k,g=k+1+1:=⟨g-2,by omega⟩
  rcases ar with⟨fc,ey⟩|⟨fc,rfl,p,rfl,ak,qS⟩
  ·cases done with
   |false=>exact ey.elim
   |true=>
    have ey:s=line:=ey
    subst ey;unfold b3;rw[XH ⟨aQ,by omega⟩]
    by_cases ah:s=⟨#[]⟩
    ·subst ah
     have e:lp ⟨#[]⟩ (cnt+1) l= .inr l:=rfl
     rw[e];rfl
    ·rw[u2 ah (by rw[HH fc]) (by rw[HH fc])]
     cases lp s (cnt+1) l with
     |inl r=>rfl
     |inr eB=>
      have e:iw f ⟨#[]⟩ (cnt+1+1) eB=(eB,0,0):=by cases f<;>rfl
      show x7 (b3 (pT x) (g+1) (cnt+1,⟨#[]⟩,false,eB,true,pos))=iw f ⟨#[]⟩ (cnt+1+1) eB;rw[e];rfl
  ·have u3:cM 10 s=(line,bh x (some (p:Int)) none,true):=pR (by rw[qS,HP]) fc
   have ah:s≠⟨#[]⟩:=fun e=>by
    subst e
    have:=congrArg List.length qS
    rw[List.length_append,List.length_cons]at this
    have aP:(⟨#[]⟩:ByteArray).data.toList.length=0:=rfl
    omega
   have mg:=XF (c:=10) ah
   rw[u3]at mg;unfold b3;rw[XI ⟨aQ,by omega⟩ ak hx,u2 ah (by rw[u3]) (by rw[u3])]
   cases lp line (cnt+1) l with
   |inl r=>rfl
   |inr eB=>
    obtain⟨XL,XM,pos',aC,a6⟩:=NY (cnt:=cnt+1) (l:=eB) (HP x p) ak;show x7 (b3 (pT x) (g+1) (sL x p (cnt+1) eB))=iw f (bh x (some (p:Int)) none) (cnt+1+1) eB;rw[aC];exact aO _ XL XM pos' (cnt+1) eB (g+1) (by dsimp only at mg;omega) (by omega) a6 (by omega) (by omega)
theorem NZ{x:ByteArray}(hx:x.size≤1048576):m8 x=iw (x.size+1) x 1 []:=by
 have ae:=p2 (bh x (some (0:Int)) none) 10
 rw[yS]at ae
 obtain⟨line,done,pos,aC,a6⟩:=NY (x:=x) (r:=x) (p:=0) (cnt:=0) (l:=[]) rfl (Nat.zero_le _)
 have h:=XK hx (x.size+1) x line done pos 0 [] cX (by omega) (show _≤18446744073709551616 by omega) a6 (by omega) (by omega)
 rw[←aC]at h
 have h:x7 (b3 (pT x) cX (sL x 0 0 []))=iw (x.size+1) x 1 []:=h
 rw[←h]
 unfold m8 sL
 rw[decide_eq_false (show ¬(x.size:Int)>1048576 by omega),cond_false]
 have e:iA (bh x (some (0:Int)) none) 10=eA (bh x (some (0:Int)) none) 10:=rfl
 dsimp only
 rw[e]
 show _=x7 (b3 (pT x) cX (bif decide (eA (bh x (some (0:Int)) none) 10<0)then(0,bh x (some (0:Int)) none,true,[],true,(0:Int))
  else(0,bh x (some (0:Int)) (some ((0:Int)+eA (bh x (some (0:Int)) none) 10)),true,[],false,(0:Int)+(eA (bh x (some (0:Int)) none) 10+1))))
 generalize eA (bh x (some (0:Int)) none) 10=q at ae⊢
 have c0:IntKind.wrap .i64 ((0:Int)+q)=0+q:=eM _ (by omega) (by omega)
 have jE:IntKind.wrap .i64 (q+1)=q+1:=eM _ (by omega) (by omega)
 have rF:IntKind.wrap .i64 ((0:Int)+(q+1))=0+(q+1):=eM _ (by omega) (by omega)
 rw[c0,jE,rF]
 cases decide (q<0)<;>rfl
theorem ne_self{α:Type}[BEq α][LawfulBEq α](a:α):(a != a)=false:=by simp
theorem Pn(l:List aT):m9 l l=true:=by
 unfold m9
 dsimp only
 rw[ne_self,cond_false]
 have H:=Xy (R:=Bool) (A:=Unit) (A':=Unit) (fun _ _=>True) (Int.toNat (l.length:Int)) (b:=fun _ _=>.bP ()) (b':=fun _ _=>.bP ()) (fun i _ _ _ _=>.inr ⟨(),(),rfl,rfl,trivial⟩)
 simp only[beq_self_eq_true,Dt,cond_true,Bool.not_true,cond_false]
 have: ∀(m k:Nat),bS (fun(_:Nat) (_:Unit)=>(Step.bP ():Step Bool Unit)) k m ()= .inr ():=by
  intro m
  induction m with
  |zero=>intro k;rfl
  |succ m aO=>intro k;exact aO (k+1)
 show Sum.elim _ _ (bS (fun(_:Nat) (_:Unit)=>(Step.bP ():Step Bool Unit)) 0 _ ())=true
 rw[this]
 rfl
theorem HZ(l:List aT):rb l l:=by
 unfold rb
 refine fun _=>⟨fun _ _=>True,trivial,fun i d hi _=>⟨⟨by omega,?_⟩,fun _=>trivial⟩⟩
 rw[Int.toNat_natCast]at hi
 omega
end Go.aG
namespace Go.aG
open Go Go.du
theorem N0(x:ByteArray): ∀(a b k:Nat) (acc:Int),hI x (a+b) k acc=(hI x a k acc).bind fun v=>hI x b (k+a) v
 |0,b,k,acc=>by
  rw[Nat.zero_add];rfl
 |a+1,b,k,acc=>by
  rw[show a+1+b=(a+b)+1 by omega]
  simp only[hI]
  cases oM (aK x (k:Int))with
  |false=>rfl
  |true=>
   rw[cond_true,cond_true,N0 x a b (k+1),show k+1+a=k+(a+1)by omega]
theorem XN: ∀d:Nat,d<10→((UInt8.ofNat (48+d)).toNat:Int)=48+d:=by decide
theorem N1{a:Int}{d:Nat}(hd:d<10)(aP:0≤a)(aa:a≤1000000000000000):sJ a (48+(d:Int))=10*a+d:=by
 unfold sJ
 have aC:IntKind.wrap .u8 (48+(d:Int)-48)=d:=by rw[IntKind.wrap_u8'];omega
 have a6:IntKind.wrap .i64 (d:Int)=d:=eM _ (by omega) (by omega)
 have ck:IntKind.wrap .i64 (10*a)=10*a:=eM _ (by omega) (by omega)
 rw[aC,a6,ck]
 exact eM _ (by omega) (by omega)
theorem N2{d:Nat}(hd:d<10):oM (48+(d:Int))=true:=by
 unfold oM
 rw[decide_eq_true (by omega),decide_eq_true (by omega)]
 rfl
theorem HQ{x:ByteArray}{pre post:List UInt8}{d:Nat}(hd:d<10)(h:x.data.toList=pre++UInt8.ofNat (48+d)::post):aK x (pre.length:Int)=48+d:=by
 rw[gA h,uZ]
 exact XN d hd
theorem HR: ∀(f u:Nat) {x:ByteArray} {pre post:List UInt8},x.data.toList=pre++(fq f u++post)→u<10^f→u<1000000000000000→hI x (fq f u).length pre.length 0=some (u:Int)
 |0,u,x,pre,post,_,hu,_=>by
  have:u=0:=by simpa using hu
  subst this;rfl
 |f+1,u,x,pre,post,h,hu,ad=>by
  unfold fq at h⊢
  cases hc:Nat.blt u 10 with
  |true=>
   rw[hc,cond_true]at h
   have hd:u<10:=by rw[Nat.blt_eq]at hc;exact hc
   rw[cond_true];show hI x 1 pre.length 0=_;unfold hI hI;rw[HQ hd h,N2 hd,cond_true,N1 hd (by decide) (by decide)]
   simp
  |false=>
   rw[hc,cond_false,List.append_assoc]at h
   have hd: ¬u<10:=by intro q;rw[←Nat.blt_eq,hc]at q;cases q
   rw[cond_false,List.length_append];show hI x ((fq f (u/ 10)).length+1) pre.length 0=_;rw[N0,HR f (u/ 10) h (by rw[Nat.pow_succ]at hu;omega) (by omega)]
   have hm:=Nat.mod_lt u (show 0<10 by decide)
   show hI x 1 (pre.length+(fq f (u/ 10)).length) ((u/ 10:Nat):Int)=_;rw[←List.append_assoc]at h
   have aa:=HQ hm h
   rw[List.length_append]at aa;unfold hI hI;rw[aa,N2 hm,cond_true,N1 hm (by omega) (by omega)]
   congr 1
   omega
theorem HS: ∀(f k u:Nat),u<10^(k+1)→(fq f u).length≤k+1
 |0,k,u,_=>Nat.zero_le _
 |f+1,k,u,h=>by
  unfold fq
  cases hc:Nat.blt u 10 with
  |true=>rw[cond_true];show 1≤_;omega
  |false=>
   have hd: ¬u<10:=by intro q;rw[←Nat.blt_eq,hc]at q;cases q
   rw[cond_false,List.length_append]
   cases k with
   |zero=>simp at h;omega
   |succ k=>
    have:=HS f k (u/ 10) (by rw[Nat.pow_succ]at h;omega)
    show _+1≤_;omega
theorem BI: ∀(f u:Nat),∀b∈fq f u,∃d:Nat,d<10∧b=UInt8.ofNat (48+d)
 |0,_,b,h=>by cases h
 |f+1,u,b,h=>by
  unfold fq at h
  cases hu:Nat.blt u 10 with
  |true=>
   rw[hu]at h;simp only[cond_true,List.mem_singleton]at h;subst h;exact⟨u,by rw[Nat.blt_eq]at hu;exact hu,rfl⟩
  |false=>
   rw[hu]at h;simp only[cond_false,List.mem_append,List.mem_singleton]at h
   rcases h with h|h
   ·exact BI f _ b h
   ·exact⟨u%10,Nat.mod_lt _ (by decide),h⟩
theorem N3(f u:Nat): ∃d l,d<10∧fq (f+1) u=UInt8.ofNat (48+d)::l:=by
 cases an:fq (f+1) u with
 |nil=>
  exfalso;unfold fq at an
  cases hu:Nat.blt u 10<;>rw[hu]at an<;>simp at an
 |cons b l=>
  obtain⟨d,hd,rfl⟩:=BI (f+1) u b (by rw[an];exact List.mem_cons_self ..)
  exact⟨d,l,hd,rfl⟩
theorem HT(n:Int):aK (m21 n) 0=45∧n<0∨(¬n<0∧∃d:Nat,d<10∧aK (m21 n) 0=48+d):=by
 show aK (fr n) 0=45∧n<0∨(¬n<0∧∃d:Nat,d<10∧aK (fr n) 0=48+d)
 by_cases hn:n<0
 ·refine .inl ⟨?_,hn⟩
  have:(fr n).data.toList=45::fq 20 n.natAbs:=by unfold fr;rw[decide_eq_true hn,cond_true]
  exact gA this 0
 ·refine .inr ⟨hn,?_⟩
  obtain⟨d,l,hd,an⟩:=N3 19 n.toNat
  have:(fr n).data.toList=[]++UInt8.ofNat (48+d)::l:=by unfold fr;rw[decide_eq_false hn,cond_false,an];rfl
  exact⟨d,hd,HQ hd this⟩
theorem u4{n:Int}(aa: -1099511627776≤n)(af:n≤1099511627776):fv (m21 n)=(n,true):=by
 rw[Xe]
 show Bz (fr n)=_
 have hf:=HT n
 have hf:aK (fr n) 0=45∧n<0∨(¬n<0∧∃d:Nat,d<10∧aK (fr n) 0=48+d):=hf
 have fin: ∀(a:Int),(bif(aK (fr n) 0==45)then IntKind.wrap .i64 (0-a)else a)=n→By (fr n) (some a)=(n,true):=by
  intro a aI;unfold By;dsimp only;rw[aI,Xf,decide_eq_false (by omega),decide_eq_false (by omega),sO rfl]
  rfl
 have sat:(20:Nat)=19+1:=rfl
 unfold Bz
 rcases hf with⟨ad,hn⟩|⟨hn,d,hd,ad⟩
 ·have an:(fr n).data.toList=[45]++(fq 20 n.natAbs++[]):=by unfold fr;rw[decide_eq_true hn,cond_true,List.append_nil];rfl
  have ah:(fr n).size=1+(fq 20 n.natAbs).length:=by rw[kl an];simp;omega
  have BJ:=HS 20 12 n.natAbs (by omega)
  rw[ad,show(((fr n).size:Int)==0||decide (((fr n).size:Int)>14))=false by rw[Bool.or_eq_false_iff];exact⟨by rw[beq_eq_false_iff_ne];omega,decide_eq_false (by omega)⟩]
  simp only[cond_false,beq_self_eq_true,cond_true];rw[ah,show 1+(fq 20 n.natAbs).length-1=(fq 20 n.natAbs).length by omega]
  have:=HR 20 n.natAbs an (by omega) (by omega)
  rw[show([45]:List UInt8).length=1 from rfl]at this
  rw[this];refine fin _ ?_
  rw[ad];simp only[beq_self_eq_true,cond_true];rw[eM _ (by omega) (by omega)]
  omega
 ·have an:(fr n).data.toList=[]++(fq 20 n.toNat++[]):=by unfold fr;rw[decide_eq_false hn,cond_false,List.append_nil];rfl
  have ah:(fr n).size=(fq 20 n.toNat).length:=by rw[kl an];simp
  have BJ:=HS 20 12 n.toNat (by omega)
  have aP:0<(fq 20 n.toNat).length:=by
   obtain⟨_,_,_,e⟩:=N3 19 n.toNat;rw[show fq 20 n.toNat=fq (19+1) n.toNat from rfl,e]
   exact Nat.succ_pos _
  have bX:(aK (fr n) 0==45)=false:=by rw[ad,beq_eq_false_iff_ne];omega
  rw[bX,show(((fr n).size:Int)==0||decide (((fr n).size:Int)>14))=false by rw[Bool.or_eq_false_iff];exact⟨by rw[beq_eq_false_iff_ne];omega,decide_eq_false (by omega)⟩]
  simp only[cond_false];rw[ah]
  have:=HR 20 n.toNat an (by omega) (by omega)
  rw[show([]:List UInt8).length=0 from rfl]at this
  rw[this];refine fin _ ?_
  rw[bX,cond_false];omega
end Go.aG
namespace Go.aG
open Go Go.du
def kQ(u:UInt8):List UInt8:=(sY (u.toNat:Int)).map fun n=>UInt8.ofNat n.toNat
theorem N4(s:ByteArray): ∀(n k:Nat),k+n=s.size→(lv (fun i=>sY (aK s (i:Int))) k n).map (fun n=>UInt8.ofNat n.toNat)=(s.data.toList.drop k).flatMap kQ
 |0,k,h=>by
  rw[List.drop_eq_nil_of_le (by show s.size≤k;omega)]
  rfl
 |n+1,k,h=>by
  have aj:k<s.data.toList.length:=by show k<s.size;omega
  rw[lv,List.map_append,N4 s n (k+1) (by omega),List.drop_eq_getElem_cons aj,List.flatMap_cons]
  congr 1
  rw[gA rfl,List.getD_eq_getElem?_getD,List.getElem?_eq_getElem aj]
  rfl
theorem N5(s:ByteArray):(l8 s).data.toList=s.data.toList.flatMap kQ:=by
 unfold l8
 rw[sS,N4 s s.size 0 (by omega)]
 rfl
theorem XO: ∀n:Nat,n<256→kQ (UInt8.ofNat n)=[(kQ (UInt8.ofNat n)).getD 0 0,(kQ (UInt8.ofNat n)).getD 1 0]∧0≤jF (((kQ (UInt8.ofNat n)).getD 0 0).toNat:Int)∧0≤jF (((kQ (UInt8.ofNat n)).getD 1 0).toNat:Int)∧
 IntKind.wrap .u8 (IntKind.wrap .i64 ((IntKind.wrap .i64 ((16:Int)*jF (((kQ (UInt8.ofNat n)).getD 0 0).toNat:Int)))+jF (((kQ (UInt8.ofNat n)).getD 1 0).toNat:Int)))=(n:Int):=by decide+kernel
theorem N6(u:UInt8): ∃a b:UInt8,kQ u=[a,b]∧0≤jF (a.toNat:Int)∧0≤jF (b.toNat:Int)∧IntKind.wrap .u8 (IntKind.wrap .i64 ((IntKind.wrap .i64 ((16:Int)*jF (a.toNat:Int)))+jF (b.toNat:Int)))=(u.toNat:Int):=by
 have h:=XO u.toNat (UInt8.toNat_lt u)
 rw[show UInt8.ofNat u.toNat=u from UInt8.ofNat_toNat]at h
 exact⟨_,_,h⟩
noncomputable def BK(x0:ByteArray)(aF:Int × (List Int)):Step (ByteArray × Int) (Int × (List Int)):=
 bif(decide (aF.1<(ByteArray.size x0:Int)))then
  (bif((decide (jF (aK x0 aF.1)<0))||(decide (jF (aK x0 (IntKind.wrap .i64 (aF.1+(1:Int))))<0)))then .ret (⟨#[]⟩,4)
   else .bP ((IntKind.wrap .i64 (aF.1+(2:Int))),(List.append aF.2 ([(IntKind.wrap .u8 (IntKind.wrap .i64 ((IntKind.wrap .i64 ((16:Int)*jF (aK x0 aF.1)))+jF (aK x0 (IntKind.wrap .i64 (aF.1+(1:Int)))))))]:List Int))))
 else .b9 (aF.1,aF.2)
theorem XP{x:ByteArray}(hx:bD x): ∀(us pre:List UInt8) (acc:List Int) (f:Nat),x.data.toList=pre++us.flatMap kQ→us.length<f→
 b3 (BK x) f ((pre.length:Int),acc)= .inr ((x.size:Int),acc++us.map fun u=>(u.toNat:Int)):=by
 intro us
 induction us with
 |nil=>
  intro pre acc f h hf;obtain⟨f,rfl⟩: ∃g,f=g+1:=⟨f-1,by omega⟩
  have ah:x.size=pre.length:=by rw[kl h];simp
  unfold b3 BK;dsimp only;rw[decide_eq_false (by omega),cond_false,ah,List.map_nil,List.append_nil]
 |cons u us aO=>
  intro pre acc f h hf;obtain⟨f,rfl⟩: ∃g,f=g+1:=⟨f-1,by omega⟩
  obtain⟨a,b,aa,af,ar,aQ⟩:=N6 u;rw[List.flatMap_cons,aa]at h
  have ah:x.size=pre.length+(2+(us.flatMap kQ).length):=by rw[kl h];simp;omega
  have cY:IntKind.wrap .i64 ((pre.length:Int)+1)=((pre.length+1:Nat):Int):=by unfold bD at hx;rw[eM _ (by omega) (by omega)];omega
  have c0:IntKind.wrap .i64 ((pre.length:Int)+2)=((pre.length+2:Nat):Int):=by unfold bD at hx;rw[eM _ (by omega) (by omega)];omega
  have gR:aK x (pre.length:Int)=(a.toNat:Int):=by rw[gA h,uZ];rfl
  have ez:aK x ((pre.length+1:Nat):Int)=(b.toNat:Int):=by
   have h':x.data.toList=(pre++[a])++(b::us.flatMap kQ):=by rw[h];simp
   have:=gA h' (pre++[a]).length
   rw[uZ,List.length_append]at this;exact this
  have hi:=aO (pre++[a,b]) (acc++[(u.toNat:Int)]) f (by rw[h];simp) (by simp only[List.length_cons]at hf;omega)
  unfold b3
  have k9:BK x ((pre.length:Int),acc)= .bP (((pre++[a,b]).length:Nat),acc++[(u.toNat:Int)]):=by
   unfold BK;dsimp only;rw[decide_eq_true (by omega),cond_true,cY,c0,gR,ez,decide_eq_false (by omega),decide_eq_false (by omega),aQ,List.length_append]
   rfl
  rw[k9];rw[List.append_assoc]at hi;exact hi
theorem XQ(us:List UInt8):(us.flatMap kQ).length=2*us.length:=by
 induction us with
 |nil=>rfl
 |cons u us aO=>
  obtain⟨a,b,h,_⟩:=N6 u;rw[List.flatMap_cons,List.length_append,aO,h];simp only[List.length_cons,List.length_nil];omega
theorem XR{b:ByteArray}(ad:b.size≤1000000):j4 (l8 b)=(b,0):=by
 have an:=N5 b
 have ah:(l8 b).size=2*b.size:=by rw[kl an,XQ];rfl
 have hx:bD (l8 b):=by unfold bD;omega
 have h:=XP hx b.data.toList [] [] cX (by rw[an];rfl) (by show b.size<18446744073709551616;omega)
 have ae:(bK .rem .i64 ((l8 b).size:Int) 2 != 0)=false:=by
  rw[ah];show(Int.tmod ((2*b.size:Nat):Int) 2 != 0)=false;rw[Int.tmod_eq_emod_of_nonneg (by omega),show((2*b.size:Nat):Int)%2=0 by omega]
  rfl
 unfold j4
 dsimp only
 rw[ae,cond_false]
 refine Eq.trans (congrArg (Sum.elim (fun r:ByteArray × Int=>r) (fun cG:Int × List Int=>(bytesOf cG.2,(0:Int)))) h) ?_
 show(bytesOf ([]++b.data.toList.map fun u=>(u.toNat:Int)),(0:Int))=_
 rw[List.nil_append,NL]
theorem XS{v:cr}(h:fL v=0)(aj:(v.kind==0)=false):
 (∃n,v=⟨1,n,⟨#[]⟩⟩∧(n=0∨n=1))∨(∃n,v=⟨2,n,⟨#[]⟩⟩∧ -1099511627776≤n∧n≤1099511627776)∨(∃n,v=⟨3,n,⟨#[]⟩⟩∧0≤n∧n≤63)∨∃s,v=⟨4,0,s⟩∧s.size≤60:=by
 obtain⟨k,n,s⟩:=v
 have aj:(k==0)=false:=aj
 unfold fL at h
 dsimp only at h
 rw[aj,cond_false]at h
 by_cases aQ:k=4
 ·subst aQ
  have h:(bif(n==0)then(bif decide ((s.size:Int)>60)then(3:Int)else bif(bm .neq s (⟨#[]⟩:ByteArray)&&((4:Int) != 4))then 4 else 0)else 2)=0:=by
   revert h
   cases (n==0)<;>exact fun h=>h
  cases hn:(n==0)with
  |false=>rw[hn]at h;cases h
  |true=>
   rw[hn,cond_true]at h
   cases ah:decide ((s.size:Int)>60)with
   |true=>rw[ah]at h;cases h
   |false=>
    have hn:n=0:=by simpa using hn
    subst hn
    have ah:=of_decide_eq_false ah
    exact .inr (.inr (.inr ⟨s,rfl,by omega⟩))
 ·have eT:(k==4)=false:=by simpa using aQ
  rw[eT,cond_false]at h
  have key: ∀b:Bool,(bif !b then(2:Int)else bif decide ((s.size:Int)>60)then 3 else bif(bm .neq s (⟨#[]⟩:ByteArray)&&(k != 4))then 4 else 0)=0→b=true∧s=⟨#[]⟩:=by
   intro b ad
   cases b with
   |false=>cases ad
   |true=>
    refine⟨rfl,?_⟩
    simp only[Bool.not_true,cond_false]at ad
    cases ah:decide ((s.size:Int)>60)with
    |true=>rw[ah]at ad;cases ad
    |false=>
     rw[ah,cond_false,show(k != 4)=true by simpa using aQ,Bool.and_true]at ad
     cases aH:bm .neq s (⟨#[]⟩:ByteArray)with
     |true=>rw[aH]at ad;cases ad
     |false=>
      have aH:(!bR s ⟨#[]⟩)=false:=aH
      simpa using aH
  by_cases aa:k=1
  ·subst aa
   have h:=key ((n==0)||(n==1)) h
   obtain⟨q,rfl⟩:=h;exact .inl ⟨n,rfl,by simpa using q⟩
  ·by_cases af:k=2
   ·subst af
    have h:=key (vo n) h
    obtain⟨q,rfl⟩:=h;unfold vo at q;simp only[Bool.and_eq_true,decide_eq_true_eq]at q;exact .inr (.inl ⟨n,rfl,by omega,by omega⟩)
   ·by_cases ar:k=3
    ·subst ar
     have h:=key ((decide (n≥0))&&(decide (n≤63))) h
     obtain⟨q,rfl⟩:=h;simp only[Bool.and_eq_true,decide_eq_true_eq]at q;exact .inr (.inr (.inl ⟨n,rfl,by omega,by omega⟩))
    ·exfalso
     rw[show(k==1)=false by simpa using aa,show(k==2)=false by simpa using af,show(k==3)=false by simpa using ar]at h
     cases h
theorem x8{x y:ByteArray}(h:x≠y):bm .eql x y=false:=by
 show bR x y=false
 rw[yM]
 exact h
theorem HU{x:ByteArray}{a:UInt8}{l:List UInt8}(h:aK x 0≠(a.toNat:Int)):x≠⟨(a::l).toArray⟩:=fun e=>by
 subst e
 exact h (gA (x:=⟨(a::l).toArray⟩) rfl 0)
theorem HV{x:ByteArray}{c:Int}(h:aK x 0=c)(hc:c≠110∧c≠116∧c≠102):bm .eql x (⟨#[110,111,110,101]⟩:ByteArray)=false∧bm .eql x (⟨#[116,114,117,101]⟩:ByteArray)=false∧bm .eql x (⟨#[102,97,108,115,101]⟩:ByteArray)=false:=
 ⟨x8 (HU (a:=110) (l:=[111,110,101]) (by rw[h];exact hc.1)),x8 (HU (a:=116) (l:=[114,117,101]) (by rw[h];exact hc.2.1)),x8 (HU (a:=102) (l:=[97,108,115,101]) (by rw[h];exact hc.2.2))⟩
theorem u5{x:ByteArray}{c:Int}(h:aK x 0=c)(hc:c≠0):x≠⟨#[]⟩:=fun e=>by
 subst e
 exact hc h.symm
theorem XT{v:cr}(h:fL v=0)(aj:(v.kind==0)=false):kr (m17 v)=(v,0):=by
 have fin: ∀x:ByteArray,m17 v=x→x≠⟨#[]⟩→sK x=v→kr x=(v,0):=by
  intro x aa af ar;rw[Xq,ar];unfold BD;rw[sO aa,x8 af];rfl
 refine fin _ rfl ?_ ?_
 all_goals rcases XS h aj with⟨n,rfl,rfl|rfl⟩|⟨n,rfl,aa,af⟩|⟨n,rfl,aa,af⟩|⟨s,rfl,ah⟩
 ·decide+kernel
 ·decide+kernel
 ·have e:m17 ⟨2,n,⟨#[]⟩⟩=m21 n:=by unfold m17;rw[h];rfl
  rw[e]
  rcases HT n with⟨a,_⟩|⟨_,d,hd,a⟩
  ·exact u5 a (by decide)
  ·exact u5 a (by omega)
 ·have e:m17 ⟨3,n,⟨#[]⟩⟩=ByteArray.append (⟨#[35]⟩:ByteArray) (m21 n):=by unfold m17;rw[h];rfl
  rw[e]
  have an:(ByteArray.append (⟨#[35]⟩:ByteArray) (m21 n)).data.toList=35::(m21 n).data.toList:=by rw[jz];rfl
  exact u5 (c:=35) (gA an 0) (by decide)
 ·have e:m17 ⟨4,0,s⟩=lx s:=by rw[←yA];unfold m17;rw[h];rfl
  rw[e];exact u5 (c:=34) (gA (x4 s) 0) (by decide)
 ·kernel_rfl
 ·kernel_rfl
 ·have e:m17 ⟨2,n,⟨#[]⟩⟩=m21 n:=by unfold m17;rw[h];rfl
  rw[e]
  have key: ∀c:Int,aK (m21 n) 0=c→(c=45∨∃d:Nat,d<10∧c=48+d)→sK (m21 n)=⟨2,n,⟨#[]⟩⟩:=by
   intro c hc mV;obtain⟨cY,c0,jE⟩:=HV hc (by rcases mV with h|⟨d,hd,h⟩<;>omega)
   unfold sK;rw[cY,c0,jE,hc,show(c==35)=false by rw[beq_eq_false_iff_ne];rcases mV with h|⟨d,hd,h⟩<;>omega,show(c==34)=false by rw[beq_eq_false_iff_ne];rcases mV with h|⟨d,hd,h⟩<;>omega,u4 aa af]
   simp only[Bool.and_false,Bool.or_false,cond_false]
  rcases HT n with⟨a,_⟩|⟨_,d,hd,a⟩
  ·exact key _ a (.inl rfl)
  ·exact key _ a (.inr ⟨d,hd,rfl⟩)
 ·have e:m17 ⟨3,n,⟨#[]⟩⟩=ByteArray.append (⟨#[35]⟩:ByteArray) (m21 n):=by unfold m17;rw[h];rfl
  rw[e]
  have an:(ByteArray.append (⟨#[35]⟩:ByteArray) (m21 n)).data.toList=35::(m21 n).data.toList:=by rw[jz];rfl
  have hc:aK (ByteArray.append (⟨#[35]⟩:ByteArray) (m21 n)) 0=35:=gA an 0
  obtain⟨cY,c0,jE⟩:=HV hc (by decide)
  have aB:bh (ByteArray.append (⟨#[35]⟩:ByteArray) (m21 n)) (some (1:Int)) none=m21 n:=mH (by
   have:=HF an 1
   exact this)
  unfold sK;rw[cY,c0,jE,hc,aB,u4 (by omega) (by omega),x6 (u5 hc (by decide))]
  rfl
 ·have e:m17 ⟨4,0,s⟩=lx s:=by rw[←yA];unfold m17;rw[h];rfl
  rw[e]
  have hc:aK (lx s) 0=34:=gA (x4 s) 0
  obtain⟨cY,c0,jE⟩:=HV hc (by decide)
  have aH:oT (lx s)=(s,0):=Xp (by unfold bD;have:=IB s;omega) rfl ah
  unfold sK;rw[cY,c0,jE,hc,aH,x6 (u5 hc (by decide))]
  rfl
end Go.aG
namespace Go.aG
open Go Go.du
theorem fK{a b:Bool}(h:(bif a then b else false)=true):a=true∧b=true:=by
 cases a with
 |true=>exact⟨rfl,h⟩
 |false=>cases h
theorem XU{u v:aT}(h:vv u v=false):u=v:=by
 unfold vv at h
 rw[Bool.not_eq_false']at h
 obtain⟨aa,h⟩:=fK h
 obtain⟨af,h⟩:=fK h
 obtain⟨ar,h⟩:=fK h
 obtain⟨aQ,h⟩:=fK h
 obtain⟨bx,h⟩:=fK h
 obtain⟨ct,h⟩:=fK h
 obtain⟨dw,h⟩:=fK h
 obtain⟨ho,h⟩:=fK h
 obtain⟨hk,h⟩:=fK h
 obtain⟨BL,h⟩:=fK h
 obtain⟨N7,h⟩:=fK h
 obtain⟨s3,h⟩:=fK h
 obtain⟨BJ,h⟩:=fK h
 obtain⟨N8,h⟩:=fK h
 obtain⟨vy,h⟩:=fK h
 obtain⟨N9,h⟩:=fK h
 obtain⟨Oa,h⟩:=fK h
 obtain⟨vz,h⟩:=fK h
 obtain⟨Ob,h⟩:=fK h
 obtain⟨Oc,h⟩:=fK h
 obtain⟨Od,h⟩:=fK h
 obtain⟨s4,h⟩:=fK h
 simp only[beq_iff_eq,sZ]at aa af ar aQ bx ct dw ho hk BL N7 s3 BJ N8 vy N9 Oa vz Ob Oc Od s4 h
 obtain⟨bN,a2,a3,⟨a4,a5,Oe⟩,⟨Of,Og,a9⟩,⟨Oh,YN,a12⟩,⟨YO,⟨YP,YQ,⟨YR,YS,YT⟩,YU,⟨a20,a21,YV⟩,YW⟩⟩⟩:=u
 obtain⟨ez,gB,fE,⟨l9,px,qG⟩,⟨Oi,Oj,Ok⟩,⟨Ol,YX,YY⟩,⟨YZ,⟨Y0,Y1,⟨Y2,Y3,Y4⟩,Y5,⟨Y6,Y7,Y8⟩,Y9⟩⟩⟩:=v
 subst aa af ar aQ bx ct dw ho hk BL N7 s3 BJ N8 vy N9 Oa vz Ob Oc Od s4 h
 rfl
theorem XV{t s:ByteArray}{q:ew}(h:j3 ⟨t,q⟩ (j2 s)=false):j2 s=(q,0):=by
 generalize j2 s=D at h⊢
 unfold j3 at h
 rw[Bool.or_eq_false_iff,Bool.not_eq_false']at h
 obtain⟨aP,h⟩:=h
 obtain⟨aa,h⟩:=fK h
 obtain⟨af,h⟩:=fK h
 obtain⟨ar,h⟩:=fK h
 obtain⟨aQ,h⟩:=fK h
 obtain⟨bx,h⟩:=fK h
 obtain⟨ct,h⟩:=fK h
 obtain⟨dw,h⟩:=fK h
 obtain⟨ho,h⟩:=fK h
 obtain⟨hk,h⟩:=fK h
 simp only[beq_iff_eq,sZ,bne_eq_false_iff_eq]at aP aa af ar aQ bx ct dw ho hk h
 obtain⟨⟨bN,a2,⟨a3,a4,a5⟩,Oe,⟨Of,Og,a9⟩,Oh⟩,e⟩:=D
 obtain⟨ez,gB,⟨fE,l9,px⟩,qG,⟨Oi,Oj,Ok⟩,Ol⟩:=q
 have aP:e=0:=aP
 have aa:bN=ez:=aa
 have af:a2=gB:=af
 have ar:a3=fE:=ar
 have aQ:a4=l9:=aQ
 have bx:a5=px:=bx
 have ct:Oe=qG:=ct
 have dw:Of=Oi:=dw
 have ho:Og=Oj:=ho
 have hk:a9=Ok:=hk
 have BL:Oh=Ol:=h
 rw[aP,aa,af,ar,aQ,bx,ct,dw,ho,hk,BL]
def x9:cr:=⟨0,0,⟨#[]⟩⟩
def ya:h2:=⟨0,⟨#[]⟩,⟨#[]⟩⟩
def yb:kX:=⟨0,⟨#[]⟩,⟨#[]⟩⟩
def yc:iQ:=⟨⟨#[]⟩,⟨0,0,⟨0,⟨#[]⟩,⟨#[]⟩⟩,⟨#[]⟩,⟨0,0,⟨#[]⟩⟩,⟨#[]⟩⟩⟩
theorem XW(a:aT):m13 a=bif(a.kind==2)||(a.kind==13)then⟨a.kind,0,0,a.key,a.value,yb,yc⟩else bif(a.kind==3)then⟨a.kind,0,0,ya,x9,a.event,yc⟩else bif(a.kind==12)then⟨a.kind,0,0,ya,x9,yb,a.asked⟩
 else bif(a.kind==8)||(a.kind==9)then⟨a.kind,a.n,a.m,ya,x9,yb,yc⟩else bif(a.kind==14)then⟨a.kind,0,0,ya,x9,yb,yc⟩else⟨a.kind,a.n,0,ya,x9,yb,yc⟩:=by
 unfold m13
 dsimp only
 cases (a.kind==2)
 ·cases (a.kind==13)
  ·cases (a.kind==3)
   ·cases (a.kind==12)
    ·cases (a.kind==8)
     ·cases (a.kind==9)
      ·cases (a.kind==14)<;>rfl
      ·rfl
     ·rfl
    ·rfl
   ·rfl
  ·rfl
 ·rfl
theorem km{c:Bool}{e:Int}{y:ByteArray × Int}(he:c=true→e≠0)(h:(bif c then((⟨#[]⟩:ByteArray),e)else y).2=0):c=false∧y.2=0∧(bif c then((⟨#[]⟩:ByteArray),e)else y)=y:=by
 cases c with
 |true=>exact absurd h (he rfl)
 |false=>exact⟨rfl,h,rfl⟩
theorem Om{k:Nat}(h:k<16):nS k=h0 ((k+1:Nat):Int):=by
 unfold nS h0
 rw[show((k+1:Nat):Int)-1=(k:Int)by omega,eM _ (by omega) (by omega),Int.toNat_natCast]
theorem u6{a:aT}{x R:ByteArray}{k:Nat}(aI:gF a)(ak:HM a x)(hx:bD x)(aj:k<16)(hK:a.kind=((k+1:Nat):Int))(hc:cM 32 x=(h0 a.kind,R,true)∨cM 32 x=(h0 a.kind,R,false))(XX:mR a.kind R (cM 32 R).1 (cM 32 R).2.1=(a,true)):m5 x=(a,0):=by
 have aa:nS k=(cM 32 x).1:=by rw[Om aj,←hK];rcases hc with h|h<;>rw[h]
 have af:(cM 32 x).2.1=R:=by rcases hc with h|h<;>rw[h]
 have fk:bD R:=by rw[←af];exact(HC hx).2
 rw[NR hx aj aa,af,←hK]
 have e:m12 a.kind R=(a,true):=by rw[IX,BB fk,XX]
 have u7:l2 x a.kind R=true:=by
  unfold l2;rw[e,Ce aI,ak.1,ak.2];show((true&&((0:Int)==0))&&bR x x)=true;rw[Dt];rfl
 rw[u7,e]
 rfl
theorem yd{K:Int}{x R:ByteArray}(h:x.data.toList=(h0 K).data.toList++32::R.data.toList):cM 32 x=(h0 K,R,true):=pR h (NT K)
theorem On{d:Int}{c n:ByteArray}(hd:hZ d=false)(hc:valid c=true)(hn:valid n=true):iz (m18 d c n)=(d,c,n,true):=by
 obtain⟨aF,ea⟩:=Xx (d:=d) (n:=n) hc
 have s1:=BG hc
 have s2:=BG hn
 have ah:bD (m18 d c n):=by have:=yH d c n;unfold bD;omega
 unfold hZ at hd
 rw[Bool.or_eq_false_iff]at hd
 have d1:=of_decide_eq_false hd.1
 have d2:=of_decide_eq_false hd.2
 rw[IT,BB ah,aF]
 dsimp only
 rw[BB (by have:=(HC (c:=46) ah).2;rw[aF]at this;exact this),ea,u4 (by omega) (by omega)]
 rfl
theorem XY{a:aT}(aI:gF a)(h:(fj a).2=0):m5 (fj a).1=(a,0):=by
 have ak:HM a (fj a).1:=⟨h,rfl⟩
 have hx:bD (fj a).1:=by have:=NV aI;unfold bD;omega
 obtain⟨cB,c4⟩:=NS ak
 generalize Za:(fj a).1=x at ak hx c4⊢
 unfold fj at h
 obtain⟨eN,h,_⟩:=km (fun _=>by decide) h
 obtain⟨hb,_,_⟩:=km (fun _=>by decide) h
 have jW:=XU hb
 rw[XW]at jW
 rw[Bool.or_eq_false_iff]at eN
 have g1:=of_decide_eq_false eN.1
 have g2:=of_decide_eq_false eN.2
 have aj:(a.kind-1).toNat<16:=by omega
 have hK:a.kind=(((a.kind-1).toNat+1:Nat):Int):=by omega
 have hw:=NT a.kind
 unfold nX at cB c4
 cases f2:((a.kind==2)||(a.kind==13))with
 |true=>
  rw[f2,cond_true]at jW cB c4;obtain⟨_,cB,q⟩:=km (fun _=>by decide) cB
  rw[q]at c4;obtain⟨hd,cB,q⟩:=km (fun _=>by decide) cB
  rw[q]at c4;obtain⟨av,cB,q⟩:=km (fun _=>by decide) cB
  rw[q]at c4;obtain⟨hm,cB,q⟩:=km (fun t=>by simpa using t) cB
  rw[q]at c4;obtain⟨bl,_,q⟩:=km (fun _=>by decide) cB
  rw[q]at c4
  have c4:ByteArray.append (ByteArray.append (ByteArray.append (ByteArray.append (h0 a.kind) ⟨#[32]⟩) (m18 a.key.dev a.key.bT a.key.attr)) ⟨#[32]⟩) (m17 a.value)=x:=c4
  have av:=u1 av
  have hc:=HO (P:=m18 a.key.dev a.key.bT a.key.attr) (S:=m17 a.value) (Xw av.1 av.2)
  refine u6 (R:=ByteArray.append (ByteArray.append (m18 a.key.dev a.key.bT a.key.attr) ⟨#[32]⟩) (m17 a.value)) aI ak hx aj hK (.inl (yd ?_)) ?_
  ·rw[←c4]
   simp only[jz];simp
  ·have hm:fL a.value=0:=by simpa using hm
   rw[hc];unfold mR;rw[f2,cond_true];dsimp only;rw[On hd av.1 av.2,XT hm bl];exact Prod.ext jW rfl
 |false=>
  rw[f2,cond_false]at jW cB c4
  cases f3:(a.kind==3)with
  |true=>
   rw[f3,cond_true]at jW cB c4;obtain⟨_,cB,q⟩:=km (fun _=>by decide) cB
   rw[q]at c4;obtain⟨hd,cB,q⟩:=km (fun _=>by decide) cB
   rw[q]at c4;obtain⟨av,cB,q⟩:=km (fun _=>by decide) cB
   rw[q]at c4
   have av:=u1 av
   refine u6 (R:=m18 a.event.dev a.event.bT a.event.name) aI ak hx aj hK (.inl (yd ?_)) ?_
   ·rw[←c4]
    simp only[jz];simp
   ·unfold mR
    rw[f2,f3,cond_false,cond_true,On hd av.1 av.2];exact Prod.ext jW rfl
  |false=>
   rw[f3,cond_false]at jW cB c4
   cases f12:(a.kind==12)with
   |true=>
    rw[f12,cond_true]at jW cB c4;obtain⟨_,cB,q⟩:=km (fun _=>by decide) cB
    rw[q]at c4;obtain⟨aH,cB,q⟩:=km (fun _=>by decide) cB
    rw[q]at c4;unfold yE at aH;rw[Bool.or_eq_false_iff,Bool.not_eq_false']at aH
    have hd:=XV aH.1
    have ah:=Cf aI.q aH.1
    refine u6 (R:=ByteArray.append (ByteArray.append a.asked.token ⟨#[32]⟩) (l8 (m20 a.asked.request))) aI ak hx aj hK (.inl (yd ?_)) ?_
    ·rw[←c4]
     simp only[jz];simp
    ·rw[HO (Xs aH.2)]
     unfold mR;rw[f2,f3,f12,cond_false,cond_false,cond_true];dsimp only;rw[XR ah];dsimp only;rw[yt (yx aI.q),hd];exact Prod.ext jW rfl
   |false=>
    rw[f12,cond_false]at jW cB c4
    have wu: ∀{lo n m:Int}, -1≤lo→dA lo n m=false→ -1099511627776≤n∧n≤1099511627776∧ -1099511627776≤m∧m≤1099511627776:=by
     intro lo n m an hn;unfold dA at hn;simp only[Bool.or_eq_false_iff,decide_eq_false_iff_not]at hn;omega
    cases f8:((a.kind==8)||(a.kind==9))with
    |true=>
     rw[f8,cond_true]at jW cB c4;obtain⟨hn,cB,q⟩:=km (fun _=>by decide) cB
     rw[q]at c4;obtain⟨fc,ey,qS,FW⟩:=wu (by decide) hn
     refine u6 (R:=ByteArray.append (ByteArray.append (m21 a.n) ⟨#[32]⟩) (m21 a.m)) aI ak hx aj hK (.inl (yd ?_)) ?_
     ·rw[←c4]
      simp only[jz];simp
     ·rw[HO (HJ _).1]
      unfold mR;rw[f2,f3,f12,f8,cond_false,cond_false,cond_false,cond_true];dsimp only;rw[u4 fc ey,u4 qS FW];exact Prod.ext jW rfl
    |false=>
     rw[f8,cond_false]at jW cB c4
     cases f14:(a.kind==14)with
     |true=>
      rw[f14,cond_true]at jW cB c4;obtain⟨_,cB,q⟩:=km (fun _=>by decide) cB
      rw[q]at c4;refine u6 (R:=⟨#[]⟩) aI ak hx aj hK (.inr ?_) ?_
      ·rw[←c4]
       exact HH hw
      ·unfold mR
       rw[f2,f3,f12,f8,f14,cond_false,cond_false,cond_false,cond_false,cond_true];exact Prod.ext jW rfl
     |false=>
      rw[f14,cond_false]at jW cB c4;obtain⟨hn,cB,q⟩:=km (fun _=>by decide) cB
      rw[q]at c4;obtain⟨fc,ey,_⟩:=wu (by cases (a.kind==11)<;>decide) hn
      refine u6 (R:=m21 a.n) aI ak hx aj hK (.inl (yd ?_)) ?_
      ·rw[←c4]
       simp only[jz];simp
      ·unfold mR
       rw[f2,f3,f12,f8,f14,cond_false,cond_false,cond_false,cond_false,cond_false,u4 fc ey];exact Prod.ext jW rfl
end Go.aG
