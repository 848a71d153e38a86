/- Encodings of items and lists. Conditions: none. -/
import Derived.Test.YtddeffoppnlafaaGreatKYq
namespace Go.aK
open Go Go.aK Go.fb
theorem bO.val:bN PU wG FE re 80:=by
 refine⟨fun {v} ⟨ab,ae,aw⟩=>?_,fun {v} ⟨ab,ae,aw⟩=>?_,fun _=>DL _⟩
 ·unfold wG re
  rw[Xf,←Xg]
  by_cases aT:kQ v=0
  ·rw[if_pos aT,aT]
   rcases Xh aT with⟨k,_,_⟩|⟨k,_,_⟩|⟨k,_,_⟩
   ·simp only[k]
    exact bO.int.eq si
   ·have an:v.kind≠0∧v.kind≠4:=by omega
    rw[if_neg an.1,if_neg an.2,←bO.int.eq ab,←bO.int.eq ae]
    rcases k with k|k|k<;>rw[k]<;>rfl
   ·rw[k,if_neg (by decide),if_pos rfl,←bO.text.eq aw,←bO.int.eq (x:=4) ⟨by omega,by omega⟩]
    rfl
  ·rw[if_neg aT,show(kQ v != 0)=true by simpa using aT,←bO.int.eq si]
   rfl
 ·have key: ∀(k n:Int) (s:ByteArray),eO k→eO n→iv s→((fZ k)∧(ox s)∧(dx k).size+(jw s).size≤9223372036854775807)∧((fZ k)∧(fZ n)∧(dx k).size+(dx n).size≤9223372036854775807):=fun k n s a b c=>by
   have s1:=dH k
   have s2:=dH n
   have iQ:=jn c
   rw[bO.int.eq a,bO.int.eq b,bO.text.eq c];exact⟨⟨bO.int.ok a,bO.text.ok c,by omega⟩,bO.int.ok a,bO.int.ok b,by omega⟩
  unfold FE;dsimp only;refine⟨fun _=>?_,fun _=>?_⟩
  ·have:=key 0 0 ⟨#[]⟩ si si (Nat.zero_le _)
   exact⟨fun _=>bO.int.ok si,fun _=>⟨fun _=>this.1,fun _=>this.2⟩⟩
  ·have:=key v.kind v.n v.s ab ae aw
   exact⟨fun _=>bO.int.ok si,fun _=>⟨fun _=>this.1,fun _=>this.2⟩⟩
def qj(x:bk):Prop:=eO x.key.dev∧iv x.key.m3∧iv x.key.attr∧PU x.value∧eO x.version
def pS(x:bk):ByteArray:=hq x.key.dev++lJ x.key.m3++lJ x.key.attr++re x.value++hq x.version
theorem PV{x:bk}(h:qj x):(pS x).size≤3145728:=by
 obtain⟨ab,ae,aw,aM,bn⟩:=h
 have a:=dH x.key.dev
 have b:=jn ae
 have c:=jn aw
 have d:=DL x.value
 have e:=dH x.version
 unfold pS
 simp only[ByteArray.size_append]
 omega
theorem nY(a b:ByteArray):ByteArray.append a b=a++b:=rfl
theorem bN.item:bN qj sW yB pS 3145728:=by
 refine⟨fun {x} ⟨ab,ae,aw,aM,bn⟩=>?_,fun {x} ⟨ab,ae,aw,aM,bn⟩=>?_,fun h=>PV h⟩
 ·unfold sW pS
  rw[bN.int.eq ab,bN.text.eq ae,bN.text.eq aw,show wE ⟨x.value.kind,x.value.n,x.value.s⟩=re x.value from bN.val.eq aM,bN.int.eq bn]
  rfl
 ·have a:=dH x.key.dev
  have b:=jn ae
  have c:=jn aw
  have d:=DL x.value
  have e:=dH x.version
  unfold yB
  have ev:wE ⟨x.value.kind,x.value.n,x.value.s⟩=re x.value:=bN.val.eq aM
  simp only[bN.int.eq ab,bN.text.eq ae,bN.text.eq aw,ev,bN.int.eq bn,nY,ByteArray.size_append];exact⟨bN.int.ok ab,bN.text.ok ae,by omega,bN.text.ok aw,by omega,bN.val.ok (x:=x.value) aM,by omega,bN.int.ok bn,by omega⟩
section
variable {α ρ:Type} {V:α→Prop} {m:α→ByteArray} {p:α→Prop} {e:α→ByteArray} {C:Nat}
def iN(e:α→ByteArray)(d:α)(l:List α):ByteArray:=hq l.length++sj (fun i=>e (List.getD l i d)) 0 l.length
theorem Xi{f:Nat→ByteArray}: ∀(n k:Nat),(∀i,k≤i→i<k+n→(f i).size≤C)→(sj f k n).size≤n*C
 |0,_,_=>Nat.zero_le _
 |n+1,k,h=>by
  unfold sj;rw[ByteArray.size_append]
  have ab:=h k (Nat.le_refl _) (by omega)
  have ae:=Xi n (k+1) fun i a b=>h i (by omega) (by omega)
  rw[Nat.succ_mul];omega
theorem DM{l:List α}{i:Nat}{d:α}(h:i<l.length):List.getD l i d∈l:=by
 rw[List.getD_eq_getElem?_getD,List.getElem?_eq_getElem h]
 exact List.getElem_mem h
theorem sk(ld: ∀{x:α},V x→(e x).size≤C){d:α}{l:List α}(av:l.length≤40)(mJ: ∀x∈l,V x):(iN e d l).size≤10+40*C:=by
 unfold iN
 rw[ByteArray.size_append]
 have ab:=dH (l.length:Int)
 have ae:=Xi (C:=C) (f:=fun i=>e (List.getD l i d)) l.length 0 fun i _ hi=>ld (mJ _ (DM (by omega)))
 have:l.length*C≤40*C:=Nat.mul_le_mul_right _ av
 omega
theorem An(a:ByteArray):List.length (cB.den .dk a:List Int)=a.size:=by
 show(List.map (fun u:UInt8=>(u.toNat:Int)) a.data.toList).length=_
 rw[List.length_map]
 rfl
theorem zid(a:ByteArray):bytesOf (cB.den .dk a)=a:=by
 have:=PW [] a
 rw[List.nil_append]at this
 rw[this]
 exact pT (by rw[ByteArray.data_append,Array.toList_append,vB];rfl)
theorem jo{l:List α}(av:l.length≤40):eO (l.length:Int):=⟨by omega,by omega⟩
noncomputable def Ic(ρ:Type)(m:α→ByteArray)(d:α)(l:List α)(i:Nat)(c:List Int):Step ρ (List Int):=
 .bM (List.append c (cB.den .dk (m (List.getD l (Int.toNat (i:Int)) d))))
theorem xx(h:bN V m p e C){d:α}{l:List α}(av:l.length≤40)(mJ: ∀x∈l,V x):
 ∃r,bJ (Ic ρ m d l) 0 (Int.toNat (l.length:Int)) (cB.den .dk (dh (l.length:Int)))= .inr r∧bytesOf r=iN e d l:=by
 obtain⟨r,ab,ae⟩:=Xj (R:=ρ) (b:=Ic ρ m d l) (f:=fun i=>e (List.getD l i d)) l.length 0 (cB.den .dk (dh (l.length:Int))) fun i a _ hi=>by
  unfold Ic;rw[Int.toNat_natCast,h.eq (mJ _ (DM (by omega)))]
  rfl
 exact⟨r,ab,by rw[ae,zid,bN.int.eq (jo av)];rfl⟩
theorem Ao(h:bN V m p e C)(ld:C≤268435456){d:α}{l:List α}(av:l.length≤40)(mJ: ∀x∈l,V x)(nk:List Int→Prop)(hK: ∀c:List Int,c.length≤10+40*C→nk c):
 (fP (l.length:Int))∧(List.length ([]:List Int)+List.length (cB.den .dk (dh (l.length:Int)):List Int)≤maxLen∧(List.length ([]:List Int)+List.length (cB.den .dk (dh (l.length:Int)):List Int))*1≤140737488355328)∧
 ∃bq:Nat→(List Int)→Prop,bq 0 (cB.den .dk (dh (l.length:Int)))∧(∀(i:Nat) (d0:List Int),i<Int.toNat (l.length:Int)→bq i d0→(
  (p (List.getD l (Int.toNat (i:Int)) d))∧
  let v22:List Int:=cB.den .dk (m (List.getD l (Int.toNat (i:Int)) d))
  (List.length d0+List.length v22≤maxLen∧(List.length d0+List.length v22)*1≤140737488355328)∧
  bq (i+1) (List.append d0 v22)))∧∀aZ,bq (Int.toNat (l.length:Int)) aZ→nk aZ:=by
 have h4:dh (l.length:Int)=hq l.length:=bN.int.eq (jo av)
 have dv:=dH (l.length:Int)
 refine⟨bN.int.ok (jo av),?_,fun i c=>c.length≤10+i*C,?_,fun i c hi hc=>?_,fun c hc=>hK c ?_⟩
 ·rw[h4,An]
  simp only[List.length_nil,maxLen];omega
 ·show List.length (cB.den .dk (dh (l.length:Int)):List Int)≤_
  rw[h4,An];omega
 ·rw[Int.toNat_natCast]at hi⊢
  have az:=mJ _ (DM (d:=d) hi)
  have ao:=h.pG az
  have aD:=h.eq az
  have hm:i*C≤40*C:=Nat.mul_le_mul_right _ (by omega)
  refine⟨h.ok az,?_⟩
  dsimp only;rw[aD,An];refine⟨⟨by simp only[maxLen];omega,by omega⟩,?_⟩
  show(c++(cB.den .dk (e (List.getD l i d)):List Int)).length≤10+(i+1)*C;rw[List.length_append,An,Nat.succ_mul];omega
 ·rw[Int.toNat_natCast]at hc
  have hc:c.length≤10+l.length*C:=hc
  have:l.length*C≤40*C:=Nat.mul_le_mul_right _ av
  omega
theorem Ap(h:bN V m p e C)(ld:C≤268435456){d:α}{l:List α}(av:l.length≤40)(mJ: ∀x∈l,V x):
 (fP (l.length:Int))∧(List.length ([]:List Int)+List.length (cB.den .dk (dh (l.length:Int)):List Int)≤maxLen∧(List.length ([]:List Int)+List.length (cB.den .dk (dh (l.length:Int)):List Int))*1≤140737488355328)∧
 ∃bq:Nat→(List Int)→Prop,bq 0 (cB.den .dk (dh (l.length:Int)))∧(∀(i:Nat) (d0:List Int),i<Int.toNat (l.length:Int)→bq i d0→(
  (p (List.getD l (Int.toNat (i:Int)) d))∧
  let v22:List Int:=cB.den .dk (m (List.getD l (Int.toNat (i:Int)) d))
  (List.length d0+List.length v22≤maxLen∧(List.length d0+List.length v22)*1≤140737488355328)∧
  bq (i+1) (List.append d0 v22))):=by
 obtain⟨ab,ae,I,aw,aM,_⟩:=Ao h ld (d:=d) av mJ (fun _=>True) fun _ _=>trivial
 exact⟨ab,ae,I,aw,aM⟩
end
end Go.aK
namespace Go.aK
open Go Go.aK Go.fb
def jK{α:Type}(V:α→Prop)(l:List α):Prop:=l.length≤40∧∀x∈l,V x
theorem xy(l:List Int):(bytesOf l).size=l.length:=Xk l
def Bm(s:bS):Prop:=(eO s.dev∧eO s.gU∧eO s.version)∧(jK qj s.reported∧jK qj s.kt)∧eO s.want∧eO s.done∧eO s.mq∧eO s.heard
def DN(s:bS):ByteArray:=hq s.dev++hq s.gU++hq s.version++iN pS (bj .bk) s.reported++iN pS (bj .bk) s.kt++hq s.want++hq s.done++hq s.mq++hq s.heard
theorem xz{l:List bk}(h:jK qj l):(iN pS (bj .bk) l).size≤125829130:=sk (C:=3145728) (fun h=>PV h) h.1 h.2
theorem PX{s:bS}(h:Bm s):(DN s).size≤268435456:=by
 obtain⟨_,⟨ab,ae⟩,_⟩:=h
 have a:=xz ab
 have b:=xz ae
 have aB:=dH s.dev
 have bU:=dH s.gU
 have b7:=dH s.version
 have c2:=dH s.want
 have dT:=dH s.done
 have fo:=dH s.mq
 have fh:=dH s.heard
 unfold DN
 simp only[ByteArray.size_append]
 omega
theorem bN.lK:bN Bm BD Fv DN 268435456:=by
 refine⟨fun {s} h=>?_,fun {s} h=>?_,fun h=>PX h⟩
 ·obtain⟨⟨ab,ae,aw⟩,⟨⟨aM,oh⟩,bn,xA⟩,cl,dW,jI,hG⟩:=h
  unfold BD
  extract_lets v6 ba
  obtain⟨iP,ct,a2⟩:=xx (ρ:=ByteArray) bN.item (d:=bj .bk) aM oh;refine(congrArg (Sum.elim _ _) ct).trans ?_
  rw[Sum.elim_inr];obtain⟨lV,fV,h3⟩:=xx (ρ:=ByteArray) bN.item (d:=bj .bk) bn xA;refine(congrArg (Sum.elim _ _) fV).trans ?_
  rw[Sum.elim_inr,a2,h3,bN.int.eq ab,bN.int.eq ae,bN.int.eq aw,bN.int.eq cl,bN.int.eq dW,bN.int.eq jI,bN.int.eq hG];rfl
 ·obtain⟨⟨ab,ae,aw⟩,⟨⟨aM,oh⟩,bn,xA⟩,cl,dW,jI,hG⟩:=h
  have aB:=dH s.dev
  have bU:=dH s.gU
  have b7:=dH s.version
  have c2:=dH s.want
  have dT:=dH s.done
  have fo:=dH s.mq
  have fh:=dH s.heard
  unfold Fv;simp only[bN.int.eq ab,bN.int.eq ae,bN.int.eq aw,bN.int.eq cl,bN.int.eq dW,bN.int.eq jI,bN.int.eq hG,nY,ByteArray.size_append];refine⟨bN.int.ok ab,bN.int.ok ae,by omega,bN.int.ok aw,by omega,?_⟩
  refine Ao bN.item (by decide) (d:=bj .bk) aM oh (fun aZ=>_) fun aZ hQ=>⟨by rw[xy];omega,?_⟩
  refine Ao bN.item (by decide) (d:=bj .bk) bn xA (fun aZ=>_) fun aB yT=>?_
  rw[xy,xy];exact⟨by omega,bN.int.ok cl,by omega,bN.int.ok dW,by omega,bN.int.ok jI,by omega,bN.int.ok hG,by omega⟩
def wo(x:cG):Prop:=eO x.from_∧eO x.mr
def vC(x:cG):ByteArray:=hq x.from_++hq x.mr
theorem PY(x:cG):(vC x).size≤20:=by
 have aB:=dH x.from_
 have bU:=dH x.mr
 unfold vC
 rw[ByteArray.size_append]
 omega
theorem bN.span:bN wo BE Fw vC 20:=by
 refine⟨fun {x} ⟨ab,ae⟩=>?_,fun {x} ⟨ab,ae⟩=>?_,fun _=>PY _⟩
 ·unfold BE
  rw[bN.int.eq ab,bN.int.eq ae];rfl
 ·have aB:=dH x.from_
  have bU:=dH x.mr
  unfold Fw;simp only[bN.int.eq ab,bN.int.eq ae];exact⟨bN.int.ok ab,bN.int.ok ae,by omega⟩
def Bn(x:bC):Prop:=iv x.name∧eO x.role∧jK wo x.h8∧jK iv x.k0
def Xl(b:Bool):ByteArray:=bif b then⟨#[1]⟩else⟨#[0]⟩
theorem zie(b:Bool):(Xl b).size=1:=by cases b<;>rfl
def xB(x:bC):ByteArray:=lJ x.name++hq x.role++iN vC (bj .cG) x.h8++iN lJ (bj .str) x.k0++Xl x.home
theorem Ie{l:List ByteArray}(h:jK iv l):(iN lJ (bj .str) l).size≤41943450:=sk (C:=1048586) (fun h=>jn h) h.1 h.2
theorem zif{l:List cG}(h:jK wo l):(iN vC (bj .cG) l).size≤810:=sk (V:=wo) (C:=20) (fun _=>PY _) h.1 h.2
theorem PZ{x:bC}(h:Bn x):(xB x).size≤67108864:=by
 obtain⟨ab,ae,aw,aM⟩:=h
 have a:=jn ab
 have b:=dH x.role
 have c:=zif aw
 have d:=Ie aM
 have e:=zie x.home
 unfold xB
 simp only[ByteArray.size_append]
 omega
theorem bN.hj:bN Bn BG Fx xB 67108864:=by
 refine⟨fun {s} h=>?_,fun {s} h=>?_,fun h=>PZ h⟩
 ·obtain⟨ab,ae,⟨aM,oh⟩,bn,xA⟩:=h
  unfold BG
  extract_lets v4 v5
  obtain⟨iP,ct,a2⟩:=xx (ρ:=ByteArray) bN.span (d:=bj .cG) aM oh;refine(congrArg (Sum.elim _ _) ct).trans ?_
  rw[Sum.elim_inr];obtain⟨lV,fV,h3⟩:=xx (ρ:=ByteArray) bN.text (d:=bj .str) bn xA;refine(congrArg (Sum.elim _ _) fV).trans ?_
  rw[Sum.elim_inr,a2,h3,bN.text.eq ab,bN.int.eq ae];rfl
 ·obtain⟨ab,ae,⟨aM,oh⟩,bn,xA⟩:=h
  have a:=jn ab
  have b:=dH s.role
  have e:(BF s.home).size=1:=by unfold BF;cases s.home<;>rfl
  unfold Fx;simp only[bN.text.eq ab,bN.int.eq ae,nY,ByteArray.size_append,e];refine⟨bN.text.ok ab,bN.int.ok ae,by omega,?_⟩
  refine Ao bN.span (by decide) (d:=bj .cG) aM oh (fun aZ=>_) fun aZ hQ=>⟨by rw[xy];omega,?_⟩
  refine Ao bN.text (by decide) (d:=bj .str) bn xA (fun aZ=>_) fun aB yT=>?_
  rw[xy,xy];exact⟨by omega,by omega⟩
def yn(x:cm):Prop:=iv x.hj∧eO x.h9.top
theorem wrap_i64(n:Int):eO (IntKind.wrap .i64 n):=by
 rw[IntKind.wrap_i64]
 exact⟨by omega,by omega⟩
def tQ(x:cm):ByteArray:=lJ x.hj++hq x.h9.top++hq (IntKind.wrap .i64 x.h9.bits)
theorem P0{x:cm}(h:yn x):(tQ x).size≤2097152:=by
 have a:=jn h.1
 have b:=dH x.h9.top
 have c:=dH (IntKind.wrap .i64 x.h9.bits)
 unfold tQ
 simp only[ByteArray.size_append]
 omega
theorem bN.vD:bN yn BH Fy tQ 2097152:=by
 refine⟨fun {x} ⟨ab,ae⟩=>?_,fun {x} ⟨ab,ae⟩=>?_,fun h=>P0 h⟩
 ·unfold BH
  rw[bN.text.eq ab,bN.int.eq ae,bN.int.eq (wrap_i64 _)];rfl
 ·have a:=jn ab
  have b:=dH x.h9.top
  have c:=dH (IntKind.wrap .i64 x.h9.bits)
  unfold Fy;simp only[bN.text.eq ab,bN.int.eq ae,bN.int.eq (wrap_i64 _),nY,ByteArray.size_append];exact⟨bN.text.ok ab,bN.int.ok ae,by omega,bN.int.ok (wrap_i64 _),by omega⟩
def yo(x:ch):Prop:=iv x.name∧jK qj x.items
def tR(x:ch):ByteArray:=lJ x.name++iN pS (bj .bk) x.items
theorem P1{x:ch}(h:yo x):(tR x).size≤134217728:=by
 have a:=jn h.1
 have b:=xz h.2
 unfold tR
 simp only[ByteArray.size_append]
 omega
theorem bN.vE:bN yo BI Fz tR 134217728:=by
 refine⟨fun {x} ⟨ab,ae,pr⟩=>?_,fun {x} ⟨ab,ae,pr⟩=>?_,fun h=>P1 h⟩
 ·unfold BI
  extract_lets v2 v3
  obtain⟨iP,ct,a2⟩:=xx (ρ:=ByteArray) bN.item (d:=bj .bk) ae pr;refine(congrArg (Sum.elim _ _) ct).trans ?_
  rw[Sum.elim_inr,a2,bN.text.eq ab];rfl
 ·have a:=jn ab
  unfold Fz;simp only[bN.text.eq ab];refine⟨bN.text.ok ab,?_⟩
  exact Ao bN.item (by decide) (d:=bj .bk) ae pr (fun aZ=>_) fun aZ hQ=>by rw[xy];omega
theorem bN.ints:bN (jK eO) FA FB (iN hq (bj .i64)) 410:=by
 refine⟨fun {l} ⟨ae,pr⟩=>?_,fun {l} ⟨ae,pr⟩=>?_,fun {l} h=>sk (V:=eO) (C:=10) (fun _=>dH _) h.1 h.2⟩
 ·unfold FA
  extract_lets v2 v3
  obtain⟨iP,ct,a2⟩:=xx (ρ:=ByteArray) bN.int (d:=bj .i64) ae pr;refine(congrArg (Sum.elim _ _) ct).trans ?_
  rw[Sum.elim_inr,a2]
 ·unfold FB
  exact Ap bN.int (by decide) (d:=bj .i64) ae pr
end Go.aK
namespace Go.aK
open Go Go.aK Go.fb
section
variable {α ρ:Type} {V:α→Prop} {e:α→ByteArray} {C:Nat}
theorem xC{b:Nat→ByteArray→Step ρ ByteArray}{d:α}{l:List α}(mJ: ∀x∈l,V x)(ag: ∀(i:Nat) (a:ByteArray),i<l.length→V (List.getD l i d)→b i a= .bM (a++e (List.getD l i d)))(a0:ByteArray):
 bJ b 0 (Int.toNat (l.length:Int)) a0= .inr (a0++sj (fun i=>e (List.getD l i d)) 0 l.length):=by
 rw[Int.toNat_natCast]
 exact P2 l.length 0 a0 fun i a _ hi=>ag i a (by omega) (mJ _ (DM (by omega)))
theorem xD{d:α}{l:List α}(av:l.length≤40)(mJ: ∀x∈l,V x){A i:Nat}{a:ByteArray}(hi:i<Int.toNat (l.length:Int))(a6:a.size≤A+i*C):V (List.getD l i d)∧a.size≤A+40*C∧∀x:ByteArray,x.size≤C→(a++x).size≤A+(i+1)*C:=by
 rw[Int.toNat_natCast]at hi
 have hm:i*C≤40*C:=Nat.mul_le_mul_right _ (by omega)
 refine⟨mJ _ (DM (d:=d) hi),by omega,fun x hx=>?_⟩
 rw[ByteArray.size_append,Nat.succ_mul]
 omega
theorem stx{l:List α}(av:l.length≤40){A:Nat}{a:ByteArray}(a6:a.size≤A+Int.toNat (l.length:Int)*C):a.size≤A+40*C:=by
 rw[Int.toNat_natCast]at a6
 have:l.length*C≤40*C:=Nat.mul_le_mul_right _ av
 omega
end
theorem bO.items:bN (jK qj) sX yD (iN pS (bj .bk)) 125829130:=by
 refine⟨fun {l} ⟨ab,ae⟩=>?_,fun {l} ⟨ab,ae⟩=>?_,fun h=>xz h⟩
 ·unfold sX
  extract_lets v1
  refine(congrArg (Sum.elim _ _) (xC (V:=qj) (e:=pS) (d:=bj .bk) ae (fun i a hi az=>?_) (dx (l.length:Int)))).trans ?_
  ·obtain⟨g1,g2,g3,g4,g5⟩:=az
   have ev:wG ⟨(List.getD l i (bj .bk)).value.kind,(List.getD l i (bj .bk)).value.n,(List.getD l i (bj .bk)).value.s⟩=re (List.getD l i (bj .bk)).value:=bO.val.eq g4
   simp only[Int.toNat_natCast,bO.int.eq g1,bO.text.eq g2,bO.text.eq g3,ev,bO.int.eq g5,nY,pS,ByteArray.append_assoc]
  ·rw[Sum.elim_inr,bO.int.eq (jo ab)]
   rfl
 ·have dv:=dH (l.length:Int)
  unfold yD;refine⟨bO.int.ok (jo ab),?_⟩
  refine⟨fun i a=>a.size≤10+i*3145728,by rw[bO.int.eq (jo ab)];omega,fun i a hi a6=>?_⟩
  obtain⟨az,a6,dm⟩:=xD (V:=qj) (d:=bj .bk) ab ae hi a6
  have dm:=dm _ (PV az)
  obtain⟨g1,g2,g3,g4,g5⟩:=az
  have ct:=dH (List.getD l i (bj .bk)).key.dev
  have a2:=jn g2
  have a3:=jn g3
  have a4:=DL (List.getD l i (bj .bk)).value
  have a5:=dH (List.getD l i (bj .bk)).version
  have ev:wG ⟨(List.getD l i (bj .bk)).value.kind,(List.getD l i (bj .bk)).value.n,(List.getD l i (bj .bk)).value.s⟩=re (List.getD l i (bj .bk)).value:=bO.val.eq g4
  simp only[Int.toNat_natCast,bO.int.eq g1,bO.text.eq g2,bO.text.eq g3,ev,bO.int.eq g5,nY,ByteArray.size_append];refine⟨bO.int.ok g1,by omega,bO.text.ok g2,by omega,bO.text.ok g3,by omega,bO.val.ok (x:=(List.getD l i (bj .bk)).value) g4,by omega,bO.int.ok g5,by omega,?_⟩
  simp only[pS,ByteArray.size_append]at dm⊢;omega
theorem bO.lK:bN Bm BK FF DN 268435456:=by
 refine⟨fun {s} h=>?_,fun {s} h=>?_,fun h=>PX h⟩
 ·obtain⟨⟨ab,ae,aw⟩,⟨aM,bn⟩,cl,dW,jI,hG⟩:=h
  unfold BK;rw[bO.int.eq ab,bO.int.eq ae,bO.int.eq aw,bO.items.eq aM,bO.items.eq bn,bO.int.eq cl,bO.int.eq dW,bO.int.eq jI,bO.int.eq hG];rfl
 ·obtain⟨⟨ab,ae,aw⟩,⟨aM,bn⟩,cl,dW,jI,hG⟩:=h
  have aB:=dH s.dev
  have bU:=dH s.gU
  have b7:=dH s.version
  have c2:=dH s.want
  have dT:=dH s.done
  have fo:=dH s.mq
  have fh:=dH s.heard
  have d1:=xz aM
  have d2:=xz bn
  unfold FF;simp only[bO.int.eq ab,bO.int.eq ae,bO.int.eq aw,bO.items.eq aM,bO.items.eq bn,bO.int.eq cl,bO.int.eq dW,bO.int.eq jI,bO.int.eq hG,nY,ByteArray.size_append];exact⟨bO.int.ok ab,bO.int.ok ae,by omega,bO.int.ok aw,by omega,bO.items.ok aM,by omega,bO.items.ok bn,by omega,bO.int.ok cl,by omega,bO.int.ok dW,by omega,bO.int.ok jI,by omega,bO.int.ok hG,by omega⟩
theorem bO.texts:bN (jK iv) yE BL (iN lJ (bj .str)) 41943450:=by
 refine⟨fun {l} ⟨ab,ae⟩=>?_,fun {l} ⟨ab,ae⟩=>?_,fun h=>Ie h⟩
 ·unfold yE
  extract_lets v1
  refine(congrArg (Sum.elim _ _) (xC (V:=iv) (e:=lJ) (d:=bj .str) ae (fun i a hi az=>?_) (dx (l.length:Int)))).trans ?_
  ·simp only[Int.toNat_natCast]
   exact congrArg (fun x=>Step.bM (a++x)) (bO.text.eq az)
  ·rw[Sum.elim_inr,bO.int.eq (jo ab)]
   rfl
 ·have dv:=dH (l.length:Int)
  unfold BL;refine⟨bO.int.ok (jo ab),?_⟩
  refine⟨fun i a=>a.size≤10+i*1048586,by rw[bO.int.eq (jo ab)];omega,fun i a hi a6=>?_⟩
  obtain⟨az,a6,dm⟩:=xD (V:=iv) (d:=bj .str) ab ae hi a6
  have dm:=dm _ (jn az)
  have a2:=jn az
  refine⟨bO.text.ok az,?_,?_⟩
  ·show a.size+(jw (List.getD l i (bj .str))).size≤_
   rw[bO.text.eq az];omega
  ·show(a++jw (List.getD l i (bj .str))).size≤_
   rw[bO.text.eq az];exact dm
theorem bO.ints:bN (jK eO) FH FI (iN hq (bj .i64)) 410:=by
 refine⟨fun {l} ⟨ab,ae⟩=>?_,fun {l} ⟨ab,ae⟩=>?_,fun {l} h=>sk (V:=eO) (C:=10) (fun _=>dH _) h.1 h.2⟩
 ·unfold FH
  extract_lets v1
  refine(congrArg (Sum.elim _ _) (xC (V:=eO) (e:=hq) (d:=bj .i64) ae (fun i a hi az=>?_) (dx (l.length:Int)))).trans ?_
  ·simp only[Int.toNat_natCast]
   exact congrArg (fun x=>Step.bM (a++x)) (bO.int.eq az)
  ·rw[Sum.elim_inr,bO.int.eq (jo ab)]
   rfl
 ·have dv:=dH (l.length:Int)
  unfold FI;refine⟨bO.int.ok (jo ab),?_⟩
  refine⟨fun i a=>a.size≤10+i*10,by rw[bO.int.eq (jo ab)];omega,fun i a hi a6=>?_⟩
  obtain⟨az,a6,dm⟩:=xD (V:=eO) (d:=bj .i64) ab ae hi a6
  have dm:=dm _ (dH (List.getD l i (bj .i64)))
  have a2:=dH (List.getD l i (bj .i64))
  refine⟨bO.int.ok az,?_,?_⟩
  ·show a.size+(dx (List.getD l i (bj .i64))).size≤_
   rw[bO.int.eq az];omega
  ·show(a++dx (List.getD l i (bj .i64))).size≤_
   rw[bO.int.eq az];exact dm
theorem bO.hj:bN Bn BN FG xB 67108864:=by
 refine⟨fun {s} h=>?_,fun {s} h=>?_,fun h=>PZ h⟩
 ·obtain⟨ab,ae,⟨aM,oh⟩,bn⟩:=h
  unfold BN
  extract_lets v1
  refine(congrArg (Sum.elim _ _) (xC (V:=wo) (e:=vC) (d:=bj .cG) oh (fun i a hi az=>?_) _)).trans ?_
  ·obtain⟨g1,g2⟩:=az
   simp only[Int.toNat_natCast,bO.int.eq g1,bO.int.eq g2,nY,vC,ByteArray.append_assoc]
  ·rw[Sum.elim_inr,bO.text.eq ab,bO.int.eq ae,bO.texts.eq bn,bO.int.eq (jo aM)]
   simp only[nY,xB,iN,ByteArray.append_assoc];rfl
 ·obtain⟨ab,ae,⟨aM,oh⟩,bn⟩:=h
  have a:=jn ab
  have b:=dH s.role
  have c:=dH (s.h8.length:Int)
  have d:=Ie bn
  have e:(BM s.home).size=1:=by unfold BM;cases s.home<;>rfl
  unfold FG;simp only[bO.text.eq ab,bO.int.eq ae,bO.texts.eq bn,bO.int.eq (jo aM),nY,ByteArray.size_append,e];refine⟨bO.text.ok ab,bO.int.ok ae,by omega,bO.int.ok (jo aM),by omega,?_⟩
  refine⟨fun i a=>a.size≤1048606+i*20,by simp only[ByteArray.size_append];omega,fun i a hi a6=>?_,fun c hc=>?_⟩
  ·obtain⟨az,a6,dm⟩:=xD (V:=wo) (d:=bj .cG) aM oh hi a6
   have dm:=dm _ (PY (List.getD s.h8 i (bj .cG)))
   have ct:=dH (List.getD s.h8 i (bj .cG)).from_
   have a2:=dH (List.getD s.h8 i (bj .cG)).mr
   obtain⟨g1,g2⟩:=az;simp only[Int.toNat_natCast,bO.int.eq g1,bO.int.eq g2];refine⟨bO.int.ok g1,by omega,bO.int.ok g2,by omega,?_⟩
   simp only[vC,ByteArray.append_assoc]at dm⊢;exact dm
  ·have hc:=stx aM hc
   exact⟨bO.texts.ok bn,by omega,by omega⟩
end Go.aK
namespace Go.aK
open Go Go.aK Go.fb
def qk(x:bG):Prop:=(eO x.gU∧iv x.mode∧iv x.source∧eO x.next)∧jK Bm x.fY∧jK iv x.ju∧jK Bn x.members∧jK yn x.fg∧jK yo x.eB∧jK eO x.j5
def nZ(x:bG):Nat→ByteArray
 |0=>hq x.gU
 |1=>lJ x.mode
 |2=>iN DN (bj .bS) x.fY
 |3=>iN lJ (bj .str) x.ju
 |4=>iN xB (bj .bC) x.members
 |5=>iN tQ (bj .cm) x.fg
 |6=>lJ x.source
 |7=>iN tR (bj .ch) x.eB
 |8=>hq x.next
 |_=>iN hq (bj .i64) x.j5
theorem Xm{x:bG}(h:qk x)(i:Nat):(nZ x i).size≤10737418250:=by
 obtain⟨⟨ab,ae,aw,aM⟩,⟨s1,zig⟩,cl,⟨s2,zih⟩,⟨iQ,zii⟩,⟨jf,zij⟩,jg,zik⟩:=h
 unfold nZ
 split
 ·have:=dH x.gU;omega
 ·have:=jn ae;omega
 ·exact sk (C:=268435456) (fun h=>PX h) s1 zig
 ·have:=Ie cl;omega
 ·have:=sk (e:=xB) (C:=67108864) (fun h=>PZ h) (d:=bj .bC) s2 zih;omega
 ·have:=sk (e:=tQ) (C:=2097152) (fun h=>P0 h) (d:=bj .cm) iQ zii;omega
 ·have:=jn aw;omega
 ·have:=sk (e:=tR) (C:=134217728) (fun h=>P1 h) (d:=bj .ch) jf zij;omega
 ·have:=dH x.next;omega
 ·have:=sk (V:=eO) (e:=hq) (C:=10) (fun _=>dH _) (d:=bj .i64) jg zik;omega
section
variable {α ρ:Type} {V:α→Prop} {m:α→ByteArray} {p:α→Prop} {e:α→ByteArray} {C:Nat}
theorem DO(h:bN V m p e C){d:α}{l:List α}(av:jK V l):Sum.elim (fun r=>r) (fun aZ=>bytesOf aZ) (bJ (Ic ByteArray m d l) 0 (Int.toNat (l.length:Int)) (cB.den .dk (dh (l.length:Int))))=iN e d l:=by
 obtain⟨r,ab,ae⟩:=xx (ρ:=ByteArray) h (d:=d) av.1 av.2
 rw[ab,Sum.elim_inr,ae]
theorem Xn(h:bN V m p e C)(ld:C≤268435456){d:α}{l:List α}(av:jK V l):(fZ (l.length:Int))∧
 ∃bq:Nat→(ByteArray)→Prop,bq 0 (dx (l.length:Int))∧∀(i:Nat) (d0:ByteArray),i<Int.toNat (l.length:Int)→bq i d0→(
  let v11:=m (List.getD l (Int.toNat (i:Int)) d)
  (p (List.getD l (Int.toNat (i:Int)) d))∧
  (ByteArray.size d0+ByteArray.size v11≤9223372036854775807)∧
  bq (i+1) (ByteArray.append d0 v11)):=by
 obtain⟨ab,ae⟩:=av
 have dv:=dH (l.length:Int)
 refine⟨bO.int.ok (jo ab),fun i a=>a.size≤10+i*C,by rw[bO.int.eq (jo ab)];omega,fun i a hi a6=>?_⟩
 obtain⟨az,a6,dm⟩:=xD (V:=V) (d:=d) ab ae hi a6
 have ao:=h.pG az
 have aD:m (List.getD l (Int.toNat (i:Int)) d)=e (List.getD l i d):=h.eq az
 dsimp only
 rw[aD]
 exact⟨h.ok az,by omega,dm _ ao⟩
theorem Xo(h:bN V m p e C){d:α}{l:List α}(av:jK V l):Sum.elim (fun r=>r) (fun aZ=>aZ) (bJ (fun(i:Nat) (aB:ByteArray)=>(Step.bM (ByteArray.append aB (m (List.getD l (Int.toNat (i:Int)) d))):Step ByteArray ByteArray)) 0 (Int.toNat (l.length:Int)) (dx (l.length:Int)))=iN e d l:=by
 rw[xC (V:=V) (e:=e) (d:=d) av.2 (fun i a hi az=>by rw[Int.toNat_natCast,h.eq az];rfl),Sum.elim_inr,bO.int.eq (jo av.1)]
 rfl
end
theorem Xp{x:bG}(h:qk x): ∀(i:Nat),i<10→BJ x (i:Int)=nZ x i:=fun i hi=>by
 obtain⟨⟨ab,ae,aw,aM⟩,s1,s2,iQ,jf,jg,ku⟩:=h
 match i,hi with
 |0,_=>exact bN.int.eq ab
 |1,_=>exact bN.text.eq ae
 |2,_=>exact DO bN.lK s1
 |3,_=>exact DO bN.text s2
 |4,_=>exact DO bN.hj iQ
 |5,_=>exact DO bN.vD jf
 |6,_=>exact bN.text.eq aw
 |7,_=>exact DO bN.vE jg
 |8,_=>exact bN.int.eq aM
 |9,_=>exact bN.ints.eq ku
theorem zil{x:bG}(h:qk x)(i:Int):FC x i:=by
 obtain⟨⟨ab,ae,aw,aM⟩,s1,s2,iQ,jf,jg,ku⟩:=h
 unfold FC
 exact⟨fun _=>bN.int.ok ab,fun _=>⟨fun _=>bN.text.ok ae,fun _=>⟨fun _=>Ap bN.lK (by decide) s1.1 s1.2,fun _=>⟨fun _=>Ap bN.text (by decide) s2.1 s2.2,fun _=>⟨fun _=>Ap bN.hj (by decide) iQ.1 iQ.2,fun _=>⟨fun _=>Ap bN.vD (by decide) jf.1 jf.2,fun _=>⟨fun _=>bN.text.ok aw,fun _=>⟨fun _=>Ap bN.vE (by decide) jg.1 jg.2,fun _=>⟨fun _=>bN.int.ok aM,fun _=>bN.ints.ok ku⟩⟩⟩⟩⟩⟩⟩⟩⟩
theorem Xq{x:bG}(h:qk x): ∀(i:Nat),i<10→FJ x (i:Int)=nZ x i:=fun i hi=>by
 obtain⟨⟨ab,ae,aw,aM⟩,s1,s2,iQ,jf,jg,ku⟩:=h
 match i,hi with
 |0,_=>exact bO.int.eq ab
 |1,_=>exact bO.text.eq ae
 |2,_=>exact Xo bO.lK s1
 |3,_=>exact bO.texts.eq s2
 |4,_=>exact Xo bO.hj iQ
 |5,_=>
  show Sum.elim (fun r=>r) (fun aZ=>aZ) (bJ _ 0 (Int.toNat (x.fg.length:Int)) (dx (x.fg.length:Int)))=iN tQ (bj .cm) x.fg;rw[xC (V:=yn) (e:=tQ) (d:=bj .cm) jf.2 (fun i a hi az=>?_),Sum.elim_inr,bO.int.eq (jo jf.1)]
  ·rfl
  ·simp only[Int.toNat_natCast,bO.text.eq az.1,bO.int.eq az.2,bO.int.eq (wrap_i64 _),nY,tQ,ByteArray.append_assoc]
 |6,_=>exact bO.text.eq aw
 |7,_=>
  show Sum.elim (fun r=>r) (fun aZ=>aZ) (bJ _ 0 (Int.toNat (x.eB.length:Int)) (dx (x.eB.length:Int)))=iN tR (bj .ch) x.eB;rw[xC (V:=yo) (e:=tR) (d:=bj .ch) jg.2 (fun i a hi az=>?_),Sum.elim_inr,bO.int.eq (jo jg.1)]
  ·rfl
  ·simp only[Int.toNat_natCast,bO.text.eq az.1,bO.items.eq az.2,nY,tR,ByteArray.append_assoc]
 |8,_=>exact bO.int.eq aM
 |9,_=>exact bO.ints.eq ku
theorem zim{x:bG}(h:qk x)(i:Int):FK x i:=by
 obtain⟨⟨ab,ae,aw,aM⟩,s1,s2,iQ,jf,jg,ku⟩:=h
 unfold FK
 refine⟨fun _=>bO.int.ok ab,fun _=>⟨fun _=>bO.text.ok ae,fun _=>⟨fun _=>Xn bO.lK (by decide) s1,fun _=>⟨fun _=>bO.texts.ok s2,fun _=>⟨fun _=>Xn bO.hj (by decide) iQ,fun _=>⟨fun _=>?_,fun _=>⟨fun _=>bO.text.ok aw,fun _=>⟨fun _=>?_,fun _=>⟨fun _=>bO.int.ok aM,fun _ _=>bO.ints.ok ku⟩⟩⟩⟩⟩⟩⟩⟩⟩
 ·obtain⟨g1,g2⟩:=jf
  have dv:=dH (x.fg.length:Int)
  refine⟨bO.int.ok (jo g1),fun i a=>a.size≤10+i*2097152,by rw[bO.int.eq (jo g1)];omega,fun i a hi a6=>?_⟩
  obtain⟨az,a6,dm⟩:=xD (V:=yn) (d:=bj .cm) g1 g2 hi a6
  have dm:=dm _ (P0 az)
  have ct:=jn az.1
  have a2:=dH (List.getD x.fg i (bj .cm)).h9.top
  have a3:=dH (IntKind.wrap .i64 (List.getD x.fg i (bj .cm)).h9.bits)
  simp only[Int.toNat_natCast,bO.text.eq az.1,bO.int.eq az.2,bO.int.eq (wrap_i64 _),nY,ByteArray.size_append];refine⟨bO.text.ok az.1,by omega,bO.int.ok az.2,by omega,bO.int.ok (wrap_i64 _),by omega,?_⟩
  simp only[tQ,ByteArray.size_append]at dm;omega
 ·obtain⟨g1,g2⟩:=jg
  have dv:=dH (x.eB.length:Int)
  refine⟨bO.int.ok (jo g1),fun i a=>a.size≤10+i*134217728,by rw[bO.int.eq (jo g1)];omega,fun i a hi a6=>?_⟩
  obtain⟨az,a6,dm⟩:=xD (V:=yo) (d:=bj .ch) g1 g2 hi a6
  have dm:=dm _ (P1 az)
  have ct:=jn az.1
  have a2:=xz az.2
  simp only[Int.toNat_natCast,bO.text.eq az.1,bO.items.eq az.2,nY,ByteArray.size_append];refine⟨bO.text.ok az.1,by omega,bO.items.ok az.2,by omega,?_⟩
  simp only[tR,ByteArray.size_append]at dm;omega
theorem zin{x:bG}(h:qk x):yF x=sj (nZ x) 0 10:=by
 unfold yF
 rw[show Int.toNat 10=10 from rfl,P2 (f:=nZ x) 10 0 ⟨#[]⟩ (fun i a _ hi=>by rw[Xq h i (by omega)];rfl),Sum.elim_inr]
 exact pT (by rw[ByteArray.data_append,Array.toList_append];rfl)
theorem Xr{x:bG}{b:Nat→(List Int) × Bool→Step ByteArray ((List Int) × Bool)}(ag: ∀(i:Nat) (c:(List Int) × Bool),i<10→∃v,b i c= .bM (c.1++cB.den .dk (nZ x i),v)): ∀(n k:Nat) (a:List Int) (v:Bool),k+n≤10→∃l w,bJ b k n (a,v)= .inr (l,w)∧bytesOf l=bytesOf a++sj (nZ x) k n
 |0,k,a,v,_=>⟨a,v,rfl,ByteArray.append_empty.symm⟩
 |n+1,k,a,v,an=>by
  obtain⟨u,hu⟩:=ag k (a,v) (by omega)
  obtain⟨l,w,ab,ae⟩:=Xr ag n (k+1) (a++cB.den .dk (nZ x k)) u (by omega)
  refine⟨l,w,?_,?_⟩
  ·simp only[bJ,hu]
   exact ab
  ·rw[ae,PW,ByteArray.append_assoc]
   rfl
theorem zio{x:bG}(h:qk x):yC x=sj (nZ x) 0 10:=by
 unfold yC
 obtain⟨l,w,ab,ae⟩:=Xr (x:=x) (b:=fun(i3:Nat) (aB:(List Int) × Bool)=>
 show Step (ByteArray) ((List Int) × Bool)from
 let v5:=BJ x (i3:Int)
 let bp:Bool→Step (ByteArray) ((List Int) × Bool):=fun v6=>
  .bM ((List.append aB.1 (cB.den .dk v5)),v6)
 bif !aB.2 then
  bp true
 else
  bp aB.2) (fun i c hi=>by
   dsimp only;rw[Xp h i hi]
   cases c.2 with
   |true=>exact⟨true,rfl⟩
   |false=>exact⟨true,rfl⟩) 10 0 [] false (by decide)
 refine(congrArg (Sum.elim _ _) ab).trans ?_
 rw[Sum.elim_inr,ae]
 exact pT (by rw[ByteArray.data_append,Array.toList_append,vB];rfl)
theorem zbo{x:bG}(h:qk x):FL x:=by
 unfold FL
 refine⟨fun i a=>a.size≤i*10737418250,Nat.zero_le _,fun i a hi a6=>?_⟩
 have hi:i<10:=hi
 have ao:=Xm h i
 have a6:a.size≤i*10737418250:=a6
 dsimp only
 rw[Xq h i hi]
 refine⟨zim h _,by omega,?_⟩
 show(a++nZ x i).size≤(i+1)*10737418250
 rw[ByteArray.size_append]
 omega
theorem zbn{x:bG}(h:qk x):FD x:=by
 unfold FD
 refine⟨fun i a=>a.1.length≤i*10737418250,Nat.zero_le _,fun i a hi a6=>?_⟩
 have hi:i<10:=hi
 have ao:=Xm h i
 have a6:a.1.length≤i*10737418250:=a6
 dsimp only
 rw[Xp h i hi]
 have key:(List.length a.1+List.length (cB.den .dk (nZ x i):List Int)≤maxLen∧(List.length a.1+List.length (cB.den .dk (nZ x i):List Int))*1≤140737488355328)∧(List.append a.1 (cB.den .dk (nZ x i))).length≤(i+1)*10737418250:=by
  rw[An];refine⟨⟨by simp only[maxLen];omega,by omega⟩,?_⟩
  show(a.1++_).length≤_;rw[List.length_append,An];omega
 exact⟨zil h _,fun _=>key,fun _=>key⟩
theorem zbq{x:bG}(h:qk x):yC x=yF x:=by rw[zio h,zin h]
end Go.aK
namespace Go.aK
open Go Go.aK Go.fb
def n1(r:Rd):Bool × Rd:=
 bif cL r != 0 then(false,r)else match r.rest.data.toList with
 |[]=>(false,⟨r.rest,5,r.made⟩)
 |c::_=>bif decide (1<c.toNat)then(false,⟨r.rest,4,r.made⟩)else(decide (c.toNat=1),⟨r.rest.extract 1 r.rest.size,r.err,r.made⟩)
def tS(q:bK):Bool × bK:=
 bif dI q != 0 then(false,q)else match q.s.data.toList[q.at_.toNat]? with
 |none=>(false,⟨q.s,q.at_,5,q.made⟩)
 |some c=>bif decide (1<c.toNat)then(false,⟨q.s,q.at_,4,q.made⟩)else(decide (c.toNat=1),⟨q.s,q.at_+1,q.bad,q.made⟩)
theorem ziq:xE n1 tS:=fun r q h=>by
 have he:=lL h
 obtain⟨au,ah⟩:=h
 have lS:=au
 obtain⟨ab,ae,aw⟩:=au
 unfold n1 tS
 rw[he]
 cases ag:dI q != 0 with
 |true=>exact⟨rfl,lS,ah⟩
 |false=>
  simp only[cond_false]
  have av:r.rest.data.toList=q.s.data.toList.drop q.at_.toNat:=by rw[ah];exact xF _ _
  cases hd:q.s.data.toList.drop q.at_.toNat with
  |nil=>
   rw[av,hd]
   have hn:q.s.data.toList[q.at_.toNat]? =none:=by
    have:=congrArg (·[0]?) hd
    simpa using this
   rw[hn];simp only;refine⟨by first|trivial|rfl,⟨ab,ae,aw⟩,?_⟩
   rw[ah]
  |cons c t=>
   rw[av,hd]
   have hn:q.s.data.toList[q.at_.toNat]? =some c:=by
    have:=congrArg (·[0]?) hd
    simpa using this
   rw[hn];simp only
   cases decide (1<c.toNat)with
   |true=>
    simp only[cond_true];refine⟨by first|trivial|rfl,⟨ab,ae,aw⟩,?_⟩
    rw[ah]
   |false=>
    simp only[cond_false]
    have bE:q.at_.toNat<q.s.size:=by
     have:=(List.getElem?_eq_some_iff.1 hn).1
     simpa using this
    refine⟨by first|trivial|rfl,⟨by show(0:Int)≤q.at_+1;omega,by show q.at_+1≤(q.s.size:Int);omega,aw⟩,?_⟩
    rw[ah];simp only[P3];rw[show(q.at_+1).toNat=q.at_.toNat+1 from by omega]
theorem hY.o0:hY n1:=fun r h=>by
 have:(cL r != 0)=true:=by simpa using h
 simp only[n1,this,cond_true]
theorem jq.o0:jq tS:=fun q h=>by
 have:(dI q != 0)=true:=by simpa using h
 simp only[tS,this,cond_true]
theorem zir{q:bK}(h:dI q≠0):(rf q).2=q:=by
 have aS:(dI q==0)=false:=by simpa using h
 unfold rf sl o1 vF n2 sm
 rw[Aq h]
 simp[aS]
theorem zis:hY mW:=fun r h=>by rw[zit h]
end Go.aK
namespace Go.aK
open Go Go.aK Go.fb
structure eQ {α:Type} (R:Rd→α × Rd) (S:bK→α × bK):Prop where
 Ig:nn R S
 DQ:hY R
 P4:jq S
section
variable {α β:Type}
theorem eQ.bl{pU:Rd→α × Rd}{aO:bK→α × bK}{rh:α→Rd→β × Rd}{dr:α→bK→β × bK}(ab:eQ pU aO)(ae: ∀a,eQ (rh a) (dr a)):eQ (bl pU rh) (bl aO dr):=
 ⟨ab.Ig.bl (fun a=>(ae a).Ig) (fun a=>(ae a).DQ) fun a=>(ae a).P4,ab.DQ.bl fun a=>(ae a).DQ,ab.P4.bl fun a=>(ae a).P4⟩
theorem eQ.cQ(a:α):eQ (cQ a) (cQ a):=⟨nn.cQ a,hY.cQ a,jq.cQ a⟩
theorem eQ.int:eQ bx bY:=⟨Ar.w,hY.int,jq.int⟩
theorem eQ.text(n:Int):eQ (fun r=>iZ r n) (fun q=>ih q n):=⟨(Xs n).w,hY.text n,jq.text n⟩
theorem eQ.o0:eQ n1 tS:=⟨ziq.w,hY.o0,jq.o0⟩
theorem eQ.take:eQ mW rf:=⟨ziu.w,zis,fun q h=>by rw[zir h]⟩
theorem eQ.list{R:Rd→α × Rd}{S:bK→α × bK}(h:eQ R S)(m:Int):eQ (lM m R) (fB m S):=⟨ziv h.Ig h.DQ m,ziw h.DQ m,zix m⟩
end
theorem ziy{r:Rd}(h:cL r≠0):n3 r=0:=by
 have:(cL r != 0)=true:=by simpa using h
 simp[n3,this]
theorem eQ.ints(m:Int):eQ (pV dt m) (n4 m):=by
 refine⟨fun r q ah=>?_,fun r h=>?_,fun q h=>?_⟩
 ·have ao:r.rest.size<dt:=by
   obtain⟨⟨ab,ae,aw⟩,aM⟩:=ah;rw[aM];show(q.s.extract q.at_.toNat q.s.size).size<_;rw[ByteArray.size_extract];unfold dt;omega
  obtain⟨g1,g2⟩:=ziz (F:=dt) m r q ah ao;exact⟨g2,fun _=>g1⟩
 ·unfold pV
  rw[P5 m h,ziy h]
  have cl:(cL (ij (Int.toNat 0) [] r).2 != 0)=true:=by
   show(cL r != 0)=true;simpa using h
  simp only[Int.lt_irrefl,gt_iff_lt,decide_false,cond_false,cl,cond_true];rfl
 ·unfold n4
  rw[P6 m h];exact ziA h _ _
def P7:Rd→bk × Rd:=bl bx fun d=>bl (fun r=>iZ r 60) fun c=>bl (fun r=>iZ r 60) fun a=>bl mW fun v=>bl bx fun n=>cQ ⟨⟨d,c,a⟩,v,n⟩
def Ih:bK→bk × bK:=bl bY fun d=>bl (fun r=>ih r 60) fun c=>bl (fun r=>ih r 60) fun a=>bl rf fun v=>bl bY fun n=>cQ ⟨⟨d,c,a⟩,v,n⟩
theorem eQ.item:eQ P7 Ih:=.bl .int fun _=>.bl (.text 60) fun _=>.bl (.text 60) fun _=>.bl .take fun _=>.bl .int fun _=>.cQ _
def Ii:Rd→cG × Rd:=bl bx fun a=>bl bx fun b=>cQ ⟨a,b⟩
def As:bK→cG × bK:=bl bY fun a=>bl bY fun b=>cQ ⟨a,b⟩
theorem eQ.span:eQ Ii As:=.bl .int fun _=>.bl .int fun _=>.cQ _
end Go.aK
namespace Go.aK
open Go Go.aK Go.fb
def ik:Rd→ByteArray × Rd:=fun r=>iZ r 60
def hI:bK→ByteArray × bK:=fun q=>ih q 60
theorem eQ.word:eQ ik hI:=.text 60
def vG:Rd→List bk × Rd:=lM 256 P7
def DR:bK→List bk × bK:=fB 256 Ih
theorem eQ.items:eQ vG DR:=eQ.item.list 256
def At:Rd→List ByteArray × Rd:=lM 256 ik
def n5:bK→List ByteArray × bK:=fB 256 hI
theorem eQ.texts:eQ At n5:=eQ.word.list 256
def vH:Rd→bS × Rd:=bl bx fun d=>bl bx fun e=>bl bx fun v=>bl vG fun p=>bl vG fun q=>bl bx fun w=>bl bx fun k=>bl bx fun s=>bl bx fun h=>cQ ⟨d,e,v,p,q,w,k,s,h⟩
def n6:bK→bS × bK:=bl bY fun d=>bl bY fun e=>bl bY fun v=>bl DR fun p=>bl DR fun q=>bl bY fun w=>bl bY fun k=>bl bY fun s=>bl bY fun h=>cQ ⟨d,e,v,p,q,w,k,s,h⟩
theorem eQ.lK:eQ vH n6:=.bl .int fun _=>.bl .int fun _=>.bl .int fun _=>.bl .items fun _=>.bl .items fun _=>.bl .int fun _=>.bl .int fun _=>.bl .int fun _=>.bl .int fun _=>.cQ _
def Ij:Rd→bC × Rd:=bl ik fun n=>bl bx fun k=>bl (lM 256 Ii) fun s=>bl At fun l=>bl n1 fun h=>cQ ⟨n,k,s,l,h⟩
def sn:bK→bC × bK:=bl hI fun n=>bl bY fun k=>bl (fB 256 As) fun s=>bl n5 fun l=>bl tS fun h=>cQ ⟨n,k,s,l,h⟩
theorem eQ.hj:eQ Ij sn:=.bl .word fun _=>.bl .int fun _=>.bl (eQ.span.list 256) fun _=>.bl .texts fun _=>.bl .o0 fun _=>.cQ _
def P8(c:Int→Int):Rd→cm × Rd:=bl ik fun n=>bl bx fun t=>bl bx fun b=>cQ ⟨n,⟨t,c b⟩⟩
def so(c:Int→Int):bK→cm × bK:=bl hI fun n=>bl bY fun t=>bl bY fun b=>cQ ⟨n,⟨t,c b⟩⟩
theorem eQ.vD(c:Int→Int):eQ (P8 c) (so c):=.bl .word fun _=>.bl .int fun _=>.bl .int fun _=>.cQ _
def P9:Rd→ch × Rd:=bl ik fun n=>bl vG fun l=>cQ ⟨n,l⟩
def sq:bK→ch × bK:=bl hI fun n=>bl DR fun l=>cQ ⟨n,l⟩
theorem eQ.vE:eQ P9 sq:=.bl .word fun _=>.bl .items fun _=>.cQ _
def sr(c:Int→Int)(i:Nat)(s:bG):Rd→bG × Rd:=
 match i with
 |0=>bl bx fun x=>cQ {s with gU:=x}
 |1=>bl ik fun x=>cQ {s with mode:=x}
 |2=>bl (lM 256 vH) fun x=>cQ {s with fY:=x}
 |3=>bl At fun x=>cQ {s with ju:=x}
 |4=>bl (lM 256 Ij) fun x=>cQ {s with members:=x}
 |5=>bl (lM 256 (P8 c)) fun x=>cQ {s with fg:=x}
 |6=>bl (fun r=>iZ r 20000) fun x=>cQ {s with source:=x}
 |7=>bl (lM 256 P9) fun x=>cQ {s with eB:=x}
 |8=>bl bx fun x=>cQ {s with next:=x}
 |_=>bl (pV dt 256) fun x=>cQ {s with j5:=x}
def Ik(c:Int→Int)(i:Nat)(s:bG):bK→bG × bK:=
 match i with
 |0=>bl bY fun x=>cQ {s with gU:=x}
 |1=>bl hI fun x=>cQ {s with mode:=x}
 |2=>bl (fB 256 n6) fun x=>cQ {s with fY:=x}
 |3=>bl n5 fun x=>cQ {s with ju:=x}
 |4=>bl (fB 256 sn) fun x=>cQ {s with members:=x}
 |5=>bl (fB 256 (so c)) fun x=>cQ {s with fg:=x}
 |6=>bl (fun r=>ih r 20000) fun x=>cQ {s with source:=x}
 |7=>bl (fB 256 sq) fun x=>cQ {s with eB:=x}
 |8=>bl bY fun x=>cQ {s with next:=x}
 |_=>bl (n4 256) fun x=>cQ {s with j5:=x}
theorem eQ.get(c:Int→Int)(i:Nat)(s:bG):eQ (sr c i s) (Ik c i s):=by
 unfold sr Ik
 split
 ·exact .bl .int fun _=>.cQ _
 ·exact .bl .word fun _=>.cQ _
 ·exact .bl (eQ.lK.list 256) fun _=>.cQ _
 ·exact .bl .texts fun _=>.cQ _
 ·exact .bl (eQ.hj.list 256) fun _=>.cQ _
 ·exact .bl ((eQ.vD c).list 256) fun _=>.cQ _
 ·exact .bl (.text 20000) fun _=>.cQ _
 ·exact .bl (eQ.vE.list 256) fun _=>.cQ _
 ·exact .bl .int fun _=>.cQ _
 ·exact .bl (.ints 256) fun _=>.cQ _
def ss(c:Int→Int)(p:Nat→Bool):Nat→Nat→bG→Rd→bG × Rd
 |0,_,s=>cQ s
 |n+1,i,s=>bl (bif p i then sr c i s else cQ s) (ss c p n (i+1))
def Au(c:Int→Int)(p:Nat→Bool):Nat→Nat→bG→bK→bG × bK
 |0,_,s=>cQ s
 |n+1,i,s=>bl (bif p i then Ik c i s else cQ s) (Au c p n (i+1))
theorem eQ.Xt(c:Int→Int)(p:Nat→Bool): ∀(n i:Nat) (s:bG),eQ (ss c p n i s) (Au c p n i s)
 |0,_,_=>.cQ _
 |n+1,i,s=>by
  refine .bl ?_ fun t=>eQ.Xt c p n (i+1) t
  cases p i with
  |true=>exact eQ.get c i s
  |false=>exact .cQ _
end Go.aK
namespace Go.aK
open Go Go.aK Go.fb
structure ek {α:Type} (S:bK→α × bK) (m:bm→bm × α) (p:bm→Prop):Prop where
 eq: ∀{q:bm},cT q→m q=((S q).2,(S q).1)
 ok: ∀{q:bm},cT q→p q
 eX: ∀{q:bm},cT q→cT (S q).2
abbrev pW(α:Type):=Int × (List α) × ByteArray × Int × Int × Bool
section
variable {α ρ:Type} {S:bK→α × bK} {f:bm→α × bm}
noncomputable def Il(n:Int)(f:bm→α × bm)(aB:pW α):Step ρ (pW α):=
 let v10:=decide (aB.1<n)
 let bp:Int→ByteArray→Int→Int→Bool→Step ρ (pW α):=fun v11 v12 cd cn cj=>
  bif(v10&&(v11==0))then
   .bM ((IntKind.wrap .i64 (aB.1+(1:Int))),(List.append aB.2.1 ([(f ⟨v12,cd,cn,cj⟩).1]:List α)),(f ⟨v12,cd,cn,cj⟩).2.s,(f ⟨v12,cd,cn,cj⟩).2.at_,(f ⟨v12,cd,cn,cj⟩).2.bad,(f ⟨v12,cd,cn,cj⟩).2.made)
  else
   .c9 (aB.1,aB.2.1,v12,cd,cn,cj)
 bif v10 then
  let v11:=gk ⟨aB.2.2.1,aB.2.2.2.1,aB.2.2.2.2.1,aB.2.2.2.2.2⟩
  bp v11.2 v11.1.s v11.1.at_ v11.1.bad v11.1.made
 else
  bp (0:Int) aB.2.2.1 aB.2.2.2.1 aB.2.2.2.2.1 aB.2.2.2.2.2
def vI(i:Int)(l:List α)(q:bm):pW α:=(i,l,q.s,q.at_,q.bad,q.made)
theorem Xu(hf: ∀q,cT q→f q=S q){n i:Int}{l:List α}{q:bm}(aG:cT q):(Il n f (vI i l q):Step ρ (pW α))=
 bif(decide (i<n)&&(dI q==0))then .bM (vI (IntKind.wrap .i64 (i+1)) (l++[(S q).1]) (S q).2)else .c9 (vI i l q):=by
 have aD:gk ⟨q.s,q.at_,q.bad,q.made⟩=(q,dI q):=n7 q
 have bg:f ⟨q.s,q.at_,q.bad,q.made⟩=S q:=hf q aG
 unfold Il vI
 simp only[aD]
 cases decide (i<n)with
 |false=>rfl
 |true=>
  simp only[cond_true,Bool.true_and]
  cases (dI q==0)with
  |false=>rfl
  |true=>simp only[cond_true,bg]<;>rfl
theorem Xv(hS: ∀{q:bm},cT q→cT (S q).2): ∀(m:Nat) (l:List α) {q:bm},cT q→cT (n8 S m l q).2
 |0,_,_,h=>h
 |m+1,l,q,h=>by
  unfold n8
  cases (dI q==0)with
  |true=>exact Xv hS m _ (hS h)
  |false=>exact h
theorem Xw(hf: ∀q,cT q→f q=S q)(hS: ∀{q:bm},cT q→cT (S q).2): ∀(m k F N:Nat) (l:List α) {q:bm},cT q→k+m=N→N≤256→m<F→
 ∃i:Int,dA (Il (ρ:=ρ) (N:Int) f) F (vI (k:Int) l q)= .inr (vI i (n8 S m l q).1 (n8 S m l q).2)
 |m,k,0,N,l,q,_,_,_,hF=>absurd hF (Nat.not_lt_zero _)
 |0,k,F+1,N,l,q,aG,an,_,_=>by
  refine⟨(k:Int),?_⟩
  unfold dA;rw[Xu hf aG,show decide ((k:Int)<(N:Int))=false from decide_eq_false (by omega)]
  rfl
 |m+1,k,F+1,N,l,q,aG,an,me,hF=>by
  unfold dA n8;rw[Xu hf aG,show decide ((k:Int)<(N:Int))=true from decide_eq_true (by omega),Bool.true_and]
  cases (dI q==0)with
  |false=>exact⟨(k:Int),rfl⟩
  |true=>
   simp only[cond_true];rw[show IntKind.wrap .i64 ((k:Int)+1)=((k+1:Nat):Int)by rw[iy _ (by omega) (by omega)];omega]
   exact Xw hf hS m (k+1) F N _ (hS aG) (by omega) me (by omega)
theorem Qa(q:bK):((da q 256).1.toNat:Int)=(da q 256).1∧(da q 256).1.toNat≤256:=by
 have ab:=Av q 256
 have ae:=ziB q 256 (by decide)
 omega
theorem vJ(hS: ∀{q:bm},cT q→cT (S q).2){q:bm}(h:cT q):cT (fB 256 S q).2:=Xv hS _ _ (tT h)
theorem Aw(hS: ∀{q:bm},cT q→cT (S q).2)(C:bm→(List α→bm→Prop)→Prop)(ld: ∀q T,cT q→T [(S q).1] (S q).2→C q T)(bytes:Nat)(ag:bytes≤100000)(nk:pW α→Prop)(hK: ∀(i:Int) (l:List α) (q:bm),cT q→nk (vI i l q)){q0:bm}(aS:cT q0){v:bm × Int}(az:v=gT q0 256):
    ∃(bq:pW α→Prop) (fO:pW α→Nat),bq (0,[],v.1.s,v.1.at_,v.1.bad,v.1.made)∧fO (0,[],v.1.s,v.1.at_,v.1.bad,v.1.made)<dt∧∀(d0:pW α),bq d0→(
      let v10:=decide (d0.1<v.2)
      let bp:Int→ByteArray→Int→Int→Bool→Prop:=fun v11 v12 cd cn cj=>
       ((v10&&(v11==0))=true→C ⟨v12,cd,cn,cj⟩ fun ez q=>((List.length d0.2.1+List.length ez≤maxLen∧(List.length d0.2.1+List.length ez)*bytes≤140737488355328)∧
        bq ((IntKind.wrap .i64 (d0.1+(1:Int))),(List.append d0.2.1 ez),q.s,q.at_,q.bad,q.made)∧fO ((IntKind.wrap .i64 (d0.1+(1:Int))),(List.append d0.2.1 ez),q.s,q.at_,q.bad,q.made)<fO d0))∧((v10&&(v11==0))=false→nk (d0.1,d0.2.1,v12,cd,cn,cj))
      (v10=true→(
       let v11:=gk ⟨d0.2.2.1,d0.2.2.2.1,d0.2.2.2.2.1,d0.2.2.2.2.2⟩
       bp v11.2 v11.1.s v11.1.at_ v11.1.bad v11.1.made))∧(v10=false→(
       bp (0:Int) d0.2.2.1 d0.2.2.2.1 d0.2.2.2.2.1 d0.2.2.2.2.2))):=by
  rw[Ax aS]at az;rw[az];obtain⟨aB,bU⟩:=Qa q0;generalize me:(da q0 256).1.toNat=N at aB bU;refine⟨fun d=>(0≤d.1∧d.1≤(N:Int)∧(d.2.1.length:Int)=d.1)∧cT ⟨d.2.2.1,d.2.2.2.1,d.2.2.2.2.1,d.2.2.2.2.2⟩,fun d=>(N-d.1.toNat),⟨⟨Int.le_refl _,by show(0:Int)≤N;omega,rfl⟩,tT (n:=256) aS⟩,by show N-_<dt;unfold dt;omega,fun d ⟨⟨ab,ae,aw⟩,aM⟩=>?_⟩
  have aD:gk ⟨d.2.2.1,d.2.2.2.1,d.2.2.2.2.1,d.2.2.2.2.2⟩=(⟨d.2.2.1,d.2.2.2.1,d.2.2.2.2.1,d.2.2.2.2.2⟩,dI ⟨d.2.2.1,d.2.2.2.1,d.2.2.2.2.1,d.2.2.2.2.2⟩):=n7 _
  have key: ∀v11:Int,((decide (d.1<(da q0 256).1)&&(v11==0))=true→C ⟨d.2.2.1,d.2.2.2.1,d.2.2.2.2.1,d.2.2.2.2.2⟩ fun ez q=>((List.length d.2.1+List.length ez≤maxLen∧(List.length d.2.1+List.length ez)*bytes≤140737488355328)∧
        (((0≤IntKind.wrap .i64 (d.1+(1:Int))∧IntKind.wrap .i64 (d.1+(1:Int))≤(N:Int)∧((List.append d.2.1 ez).length:Int)=IntKind.wrap .i64 (d.1+(1:Int)))∧cT ⟨q.s,q.at_,q.bad,q.made⟩))∧N-(IntKind.wrap .i64 (d.1+(1:Int))).toNat<N-d.1.toNat))∧
      ((decide (d.1<(da q0 256).1)&&(v11==0))=false→nk (d.1,d.2.1,d.2.2.1,d.2.2.2.1,d.2.2.2.2.1,d.2.2.2.2.2)):=fun v11=>by
    refine⟨fun hc=>ld _ _ aM ?_,fun _=>hK d.1 d.2.1 ⟨d.2.2.1,d.2.2.2.1,d.2.2.2.2.1,d.2.2.2.2.2⟩ aM⟩
    simp only[Bool.and_eq_true,decide_eq_true_eq]at hc
    have bE:=hc.1
    rw[←aB]at bE
    have w:IntKind.wrap .i64 (d.1+1)=d.1+1:=iy _ (by omega) (by omega)
    rw[w];simp only[List.length_singleton]
    have hm:(d.2.1.length+1)*bytes≤256*100000:=Nat.mul_le_mul (by omega) ag
    refine⟨⟨by simp only[maxLen];omega,by omega⟩,⟨⟨by omega,by omega,?_⟩,hS aM⟩,by omega⟩
    show((d.2.1++[_]).length:Int)=_;rw[List.length_append,List.length_singleton];omega
  refine⟨fun _=>?_,fun _=>key 0⟩
  simp only[aD];exact key _
end
end Go.aK
namespace Go.aK
open Go Go.aK Go.fb
section
variable {α ρ:Type} {S:bK→α × bK} {f:bm→α × bm}
theorem xG(hf: ∀q,cT q→f q=S q)(hS: ∀{q:bm},cT q→cT (S q).2){q0:bm}(aS:cT q0){v:bm × Int}(az:v=gT q0 256):
 ∃i:Int,dA (Il (ρ:=ρ) v.2 f) dt (0,[],v.1.s,v.1.at_,v.1.bad,v.1.made)= .inr (vI i (fB 256 S q0).1 (fB 256 S q0).2):=by
 rw[Ax aS]at az
 rw[az]
 obtain⟨aB,bU⟩:=Qa q0
 obtain⟨i,hi⟩:=Xw (ρ:=ρ) hf hS (da q0 256).1.toNat 0 dt (da q0 256).1.toNat [] (tT (n:=256) aS) (Nat.zero_add _) bU (by unfold dt;omega)
 rw[aB]at hi
 exact⟨i,hi⟩
theorem Xx(hS: ∀{q:bm},cT q→cT (S q).2)(C:bm→(List α→bm→Prop)→Prop)(ld: ∀q T,cT q→T [(S q).1] (S q).2→C q T)(bytes:Nat)(ag:bytes≤100000){q0:bm}(aS:cT q0){v:bm × Int}(az:v=gT q0 256):
 ∃(bq:pW α→Prop) (fO:pW α→Nat),bq (0,[],v.1.s,v.1.at_,v.1.bad,v.1.made)∧fO (0,[],v.1.s,v.1.at_,v.1.bad,v.1.made)<dt∧∀(d0:pW α),bq d0→(
  let v10:=decide (d0.1<v.2)
  let bp:Int→ByteArray→Int→Int→Bool→Prop:=fun v11 v12 cd cn cj=>
   ((v10&&(v11==0))=true→C ⟨v12,cd,cn,cj⟩ fun ez q=>((List.length d0.2.1+List.length ez≤maxLen∧(List.length d0.2.1+List.length ez)*bytes≤140737488355328)∧
    bq ((IntKind.wrap .i64 (d0.1+(1:Int))),(List.append d0.2.1 ez),q.s,q.at_,q.bad,q.made)∧fO ((IntKind.wrap .i64 (d0.1+(1:Int))),(List.append d0.2.1 ez),q.s,q.at_,q.bad,q.made)<fO d0))
  (v10=true→(
   let v11:=gk ⟨d0.2.2.1,d0.2.2.2.1,d0.2.2.2.2.1,d0.2.2.2.2.2⟩
   bp v11.2 v11.1.s v11.1.at_ v11.1.bad v11.1.made))∧(v10=false→(
   bp (0:Int) d0.2.2.1 d0.2.2.2.1 d0.2.2.2.2.1 d0.2.2.2.2.2))):=by
 obtain⟨I,u,ab,ae,aw⟩:=Aw hS C ld bytes ag (fun _=>True) (fun _ _ _ _=>trivial) aS az
 exact⟨I,u,ab,ae,fun d hd=>⟨fun hc=>((aw d hd).1 hc).1,fun hc=>((aw d hd).2 hc).1⟩⟩
end
theorem ek.int:ek bY eb hO:=⟨fT,jY,eR⟩
theorem ek.word:ek hI (fun q=>gq q 60) (fun q=>lT q 60):=⟨lf,su,iE⟩
theorem Qb{q:bm}(h:cT q):cT (Ih q).2:=eR (Qc (iE (iE (eR h))))
noncomputable def Xy(q:bm):bk × bm:=
 let cv:=eb q
 let v21:=gq cv.1 (60:Int)
 let v24:=gq v21.1 (60:Int)
 let dX:=wz v24.1
 let v30:=eb dX.1
 (⟨⟨cv.2,v21.2,v24.2⟩,⟨dX.2.kind,dX.2.n,dX.2.s⟩,v30.2⟩,v30.1)
theorem ziC(q:bm)(h:cT q):Xy q=Ih q:=by
 have ab:=eR h
 have ae:=iE (n:=60) ab
 have aw:=iE (n:=60) ae
 have aM:=Qc aw
 unfold Xy
 simp only[fT h,lf ab,lf ae,Xz aw,fT aM]
 rfl
theorem ek.items:ek DR qn wA:=by
 refine⟨fun {q} h=>?_,fun {q} h=>?_,fun {q} h=>vJ Qb h⟩
 ·unfold qn
  extract_lets v1
  obtain⟨i,hi⟩:=xG (ρ:=bm × List bk) ziC Qb h (v:=v1) rfl;refine(congrArg (Sum.elim _ _) hi).trans ?_
  rfl
 ·unfold wA
  intro v1;refine⟨tU h,?_⟩
  exact Xx Qb (fun q T=>
   let cv:=eb q
   (hO q)∧
   let v21:=gq cv.1 (60:Int)
   (lT cv.1 (60:Int))∧
   let v24:=gq v21.1 (60:Int)
   (lT v21.1 (60:Int))∧
   let dX:=wz v24.1
   (By v24.1)∧
   let v30:=eb dX.1
   (hO dX.1)∧T [⟨⟨cv.2,v21.2,v24.2⟩,⟨dX.2.kind,dX.2.n,dX.2.s⟩,v30.2⟩] v30.1) (fun q T aG dm=>by
    have ab:=eR aG
    have ae:=iE (n:=60) ab
    have aw:=iE (n:=60) ae
    have aM:=Qc aw
    simp only[fT aG,lf ab,lf ae,Xz aw,fT aM]
    exact⟨jY aG,su ab,su ae,ziD aw,jY aM,dm⟩) 80 (by decide) h rfl
theorem ek.texts:ek n5 qo yw:=by
 refine⟨fun {q} h=>?_,fun {q} h=>?_,fun {q} h=>vJ (S:=hI) iE h⟩
 ·unfold qo
  extract_lets v1
  obtain⟨i,hi⟩:=xG (ρ:=bm × List ByteArray) (S:=hI) (f:=fun q=>((gq q 60).2,(gq q 60).1)) (fun q aG=>by rw[lf aG];rfl) iE h (v:=v1) rfl
  refine(congrArg (Sum.elim _ _) hi).trans ?_
  rfl
 ·unfold yw
  intro v1;refine⟨tU h,?_⟩
  exact Xx (S:=hI) iE (fun q T=>let cv:=gq q (60:Int);(lT q (60:Int))∧T [cv.2] cv.1) (fun q T aG dm=>by
   simp only[lf aG]
   exact⟨su aG,dm⟩) 16 (by decide) h rfl
theorem ek.lK:ek n6 uI Bz:=by
 refine⟨fun {q} h=>?_,fun {q} h=>?_,fun {q} h=>eR (eR (eR (eR (ek.items.eX (ek.items.eX (eR (eR (eR h))))))))⟩
 ·have ab:=eR h
  have ae:=eR ab
  have aw:=eR ae
  have aM:=ek.items.eX aw
  have bn:=ek.items.eX aM
  have cl:=eR bn
  have dW:=eR cl
  have jI:=eR dW
  unfold uI;simp only[fT h,fT ab,fT ae,ek.items.eq aw,ek.items.eq aM,fT bn,fT cl,fT dW,fT jI,n6,bl,cQ]
 ·have ab:=eR h
  have ae:=eR ab
  have aw:=eR ae
  have aM:=ek.items.eX aw
  have bn:=ek.items.eX aM
  have cl:=eR bn
  have dW:=eR cl
  unfold Bz;simp only[fT h,fT ab,fT ae,ek.items.eq aw,ek.items.eq aM,fT bn,fT cl,fT dW];exact⟨jY h,jY ab,jY ae,ek.items.ok aw,ek.items.ok aM,jY bn,jY cl,jY dW,jY (eR dW)⟩
theorem Im{q:bm}(h:cT q):cT (As q).2:=eR (eR h)
theorem ek.o0:ek tS wB BA:=by
 refine⟨fun {q} h=>?_,fun {q} h=>?_,fun {q} h=>?_⟩
 ·obtain⟨ab,ae,aw⟩:=h
  unfold wB tS;simp only[n7]
  cases (dI q != 0)with
  |true=>rfl
  |false=>
   simp only[cond_false]
   cases hd:decide (q.at_≥(q.s.size:Int))with
   |true=>
    have hd:=of_decide_eq_true hd
    have hn:q.s.data.toList[q.at_.toNat]? =none:=List.getElem?_eq_none (by show q.s.size≤_;omega)
    rw[hn];rfl
   |false=>
    have hd:=of_decide_eq_false hd
    obtain⟨k,an⟩: ∃k:Nat,q.at_=(k:Int):=⟨q.at_.toNat,by omega⟩
    obtain⟨aD,bg⟩:=Qd (s:=q.s) (k:=k) (by omega)
    simp only[cond_false];rw[an,Int.toNat_natCast,aD,bg];dsimp only;generalize q.s.data.toList.getD k 0=c
    have d1:decide ((c.toNat:Int)>1)=decide (1<c.toNat):=decide_eq_decide.2 (by omega)
    have d2:((c.toNat:Int)==1)=decide (c.toNat=1):=by
     rw[Bool.eq_iff_iff];simp only[beq_iff_eq,decide_eq_true_eq];omega
    rw[d1,d2,iy _ (by omega) (by omega)]
    cases decide (1<c.toNat)<;>rfl
 ·obtain⟨ab,ae,aw⟩:=h
  unfold BA;simp only[n7];intro _ hd
  have hd:=of_decide_eq_false hd
  exact⟨ab,by omega⟩
 ·obtain⟨ab,ae,aw⟩:=h
  unfold tS
  cases (dI q != 0)with
  |true=>exact⟨ab,ae,aw⟩
  |false=>
   simp only[cond_false]
   split
   ·exact⟨ab,ae,aw⟩
   ·rename_i c hc
    have bE:q.at_.toNat<q.s.size:=(List.getElem?_eq_some_iff.1 hc).1
    simp only[cond_eq_ite]
    split
    ·exact⟨ab,ae,aw⟩
    ·exact⟨by show(0:Int)≤q.at_+1;omega,by show q.at_+1≤(q.s.size:Int);omega,aw⟩
theorem ek.hj:ek sn uJ BB:=by
 refine⟨fun {q} h=>?_,fun {q} h=>?_,fun {q} h=>ek.o0.eX (ek.texts.eX (vJ Im (eR (iE h))))⟩
 ·have ab:cT (hI q).2:=iE (n:=60) h
  have ae:=eR ab
  have aw:=vJ Im ae
  have aM:=ek.texts.eX aw
  unfold uJ
  extract_lets v1 v4 ba
  have aD:v1=((hI q).2,(hI q).1):=lf h
  have dU:v4=((bY (hI q).2).2,(bY (hI q).2).1):=by show eb v1.1=_;rw[aD];exact fT ab
  obtain⟨i,hi⟩:=xG (ρ:=bm × bC) (S:=As) (f:=fun q=>let v24:=eb q;let dX:=eb v24.1;(⟨v24.2,dX.2⟩,dX.1)) (fun q aG=>by simp only[fT aG,fT (eR aG)]<;>rfl) Im ae (v:=ba) (by show gT v4.1 256=_;rw[dU])
  refine(congrArg (Sum.elim _ _) hi).trans ?_
  show(let b5:=qo (fB 256 As (bY (hI q).2).2).2;let b3:=wB b5.1;(b3.1,(⟨v1.2,v4.2,(fB 256 As (bY (hI q).2).2).1,b5.2,b3.2⟩:bC)))=_;simp only[ek.texts.eq aw,ek.o0.eq aM,aD,dU];rfl
 ·have ab:cT (hI q).2:=iE (n:=60) h
  have ae:=eR ab
  unfold BB;intro v1
  have aD:v1=((hI q).2,(hI q).1):=lf h
  refine⟨su h,?_⟩
  intro v4
  have dU:v4=((bY (hI q).2).2,(bY (hI q).2).1):=by show eb v1.1=_;rw[aD];exact fT ab
  refine⟨by rw[aD];exact jY ab,?_⟩
  intro ba;refine⟨by rw[dU];exact tU ae,?_⟩
  intro aW
  exact Aw Im (fun q T=>let v24:=eb q;(hO q)∧let dX:=eb v24.1;(hO v24.1)∧T [⟨v24.2,dX.2⟩] dX.1) (fun q T aG dm=>by
   simp only[fT aG,fT (eR aG)]
   exact⟨jY aG,jY (eR aG),dm⟩) 16 (by decide) aW (fun i l q aG=>by
    have qx:qo ⟨q.s,q.at_,q.bad,q.made⟩=((n5 q).2,(n5 q).1):=ek.texts.eq aG
    show(let b5:=qo ⟨q.s,q.at_,q.bad,q.made⟩;(yw ⟨q.s,q.at_,q.bad,q.made⟩)∧let b3:=wB b5.1;BA b5.1);simp only[qx]
    exact⟨ek.texts.ok (q:=q) aG,ek.o0.ok (ek.texts.eX aG)⟩) ae (by show gT v4.1 256=_;rw[dU])
end Go.aK
namespace Go.aK
open Go Go.aK Go.fb
theorem XA: ∀(n:Nat) (l:List Int) {q:bm},cT q→cT (mK n l q).2
 |0,_,_,h=>h
 |n+1,l,q,h=>by
  unfold mK
  cases (dI (bY q).2 != 0)with
  |true=>exact eR h
  |false=>exact XA n _ (eR h)
abbrev Qe:=(List Int) × ByteArray × Int × Int × Bool
noncomputable def Qf(_:Nat)(aB:Qe):Step (bm × (List Int)) Qe:=
 let v12:=eb ⟨aB.2.1,aB.2.2.1,aB.2.2.2.1,aB.2.2.2.2⟩
 let cj:=gk v12.1
 bif(cj.2 != 0)then
  .ret (cj.1,[])
 else
  .bM ((List.append aB.1 ([v12.2]:List Int)),cj.1.s,cj.1.at_,cj.1.bad,cj.1.made)
theorem XB: ∀(n k:Nat) (l:List Int) {q:bm},cT q→
 Sum.elim (fun r=>r) (fun aZ:Qe=>((⟨aZ.2.1,aZ.2.2.1,aZ.2.2.2.1,aZ.2.2.2.2⟩:bm),aZ.1)) (bJ Qf k n (l,q.s,q.at_,q.bad,q.made))=((mK n l q).2,(mK n l q).1)
 |0,_,_,_,_=>rfl
 |n+1,k,l,q,h=>by
  unfold bJ mK
  have aD:eb ⟨q.s,q.at_,q.bad,q.made⟩=((bY q).2,(bY q).1):=fT h
  have bg:Qf k (l,q.s,q.at_,q.bad,q.made)=bif(dI (bY q).2 != 0)then .ret ((bY q).2,[])else .bM (l++[(bY q).1],(bY q).2.s,(bY q).2.at_,(bY q).2.bad,(bY q).2.made):=by
   unfold Qf;simp only[aD,n7];rfl
  rw[bg]
  cases (dI (bY q).2 != 0)with
  |true=>rfl
  |false=>exact XB n (k+1) _ (eR h)
theorem ek.ints:ek (n4 256) (fun q=>wC q 256) (fun q=>BC q 256):=by
 refine⟨fun {q} h=>?_,fun {q} h=>?_,fun {q} h=>XA _ _ (tT h)⟩
 ·show wC q 256=_
  unfold wC;rw[Ax h];exact XB _ _ _ (tT (n:=256) h)
 ·show BC q 256
  have ab:=tT (n:=256) h
  obtain⟨aB,bU⟩:=Qa q;unfold BC;rw[Ax h];refine⟨tU h,⟨Av q 256,by show(da q 256).1<_;omega⟩,fun i d=>d.1.length=i∧cT ⟨d.2.1,d.2.2.1,d.2.2.2.1,d.2.2.2.2⟩,⟨rfl,ab⟩,fun i d hi ⟨av,hd⟩=>?_⟩
  have aD:eb ⟨d.2.1,d.2.2.1,d.2.2.2.1,d.2.2.2.2⟩=((bY ⟨d.2.1,d.2.2.1,d.2.2.2.1,d.2.2.2.2⟩).2,(bY ⟨d.2.1,d.2.2.1,d.2.2.2.1,d.2.2.2.2⟩).1):=fT hd
  have hi:i<(da q 256).1.toNat:=hi
  simp only[aD,n7];refine⟨jY hd,fun _=>⟨⟨?_,?_⟩,?_,eR hd⟩⟩
  ·simp only[List.length_singleton,maxLen];omega
  ·simp only[List.length_singleton];omega
  ·show(d.1++[_]).length=i+1
   rw[List.length_append,av];rfl
theorem XC(q:bm):uK q=(q,sv q):=by
 unfold uK sv
 simp only[n7]
 cases (dI q != 0)with
 |true=>rfl
 |false=>
  simp only[cond_false]
  cases decide (q.at_<(q.s.size:Int))<;>rfl
theorem Qg{c:Int→Int}{q:bm}(h:cT q):cT (so c q).2:=eR (eR (iE h))
theorem Qh{q:bm}(h:cT q):cT (sq q).2:=ek.items.eX (iE h)
def dv:bG:=⟨0,⟨#[]⟩,[],[],[],[],⟨#[]⟩,[],0,[]⟩
theorem XD{x:ByteArray}(h:cD x):cT (Ay x):=(XE h).1
theorem ziE{σ α β rM:Type}(R:σ→α × σ)(F:α→σ→β × σ)(N:β→σ→rM × σ):bl (bl R F) N=bl R fun x=>bl (F x) N:=rfl
theorem ziF{σ α β:Type}(a:α)(N:α→σ→β × σ):bl (cQ a) N=N a:=rfl
theorem ziG(c:Int→Int):Au c (fun _=>true) 10 0 dv=bl bY fun Qi=>bl hI fun md=>bl (fB 256 n6) fun Qj=>bl n5 fun ac=>bl (fB 256 sn) fun Qk=>bl (fB 256 (so c)) fun Ql=>bl (fun r=>ih r 20000) fun nf=>bl (fB 256 sq) fun rX=>bl bY fun ne=>bl (n4 256) fun Qm=>cQ (⟨Qi,md,Qj,ac,Qk,Ql,nf,rX,ne,Qm⟩:bG):=by
 simp only[Au,Ik,cond_true,ziE,ziF,dv]
def Az(q:bG × bm):bG × Int:=if sv q.2=0 then(q.1,0)else(dv,sv q.2)
theorem ziH{s:bG}{q:bm}{v:bm × Int}(az:v=uK q):(bif(v.2 != 0)then(dv,(uK v.1).2)else(s,0))=Az (s,q):=by
 rw[XC]at az
 rw[az]
 unfold Az
 simp only[XC]
 by_cases aT:sv q=0
 ·rw[if_pos aT,aT];rfl
 ·rw[if_neg aT,show(sv q != 0)=true by simpa using aT];rfl
theorem ziI{x:ByteArray}(h:cD x):yx x=Az (Au (IntKind.wrap .u64) (fun _=>true) 10 0 dv (Ay x)):=by
 have aS:=XD h
 generalize ziJ:Ay x=q0 at aS
 rw[ziG]
 have ab:cT (bY q0).2:=eR aS
 have ae:cT (hI (bY q0).2).2:=iE ab
 generalize XF:(hI (bY q0).2).2=di at ae
 have aw:cT (fB 256 n6 di).2:=vJ ek.lK.eX ae
 have aM:cT (n5 (fB 256 n6 di).2).2:=ek.texts.eX aw
 generalize XG:(n5 (fB 256 n6 di).2).2=oT at aM
 have bn:cT (fB 256 sn oT).2:=vJ ek.hj.eX aM
 generalize XH:(fB 256 sn oT).2=vt at bn
 have cl:cT (fB 256 (so (IntKind.wrap .u64)) vt).2:=vJ Qg bn
 generalize XI:(fB 256 (so (IntKind.wrap .u64)) vt).2=vu at cl
 have dW:cT (ih vu 20000).2:=iE cl
 generalize XJ:(ih vu 20000).2=tI at dW
 have jI:cT (fB 256 sq tI).2:=vJ Qh dW
 generalize XK:(fB 256 sq tI).2=tV at jI
 have hG:cT (bY tV).2:=eR jI
 have ah:Az ((bl bY fun Qi=>bl hI fun md=>bl (fB 256 n6) fun Qj=>bl n5 fun ac=>bl (fB 256 sn) fun Qk=>bl (fB 256 (so (IntKind.wrap .u64))) fun Ql=>bl (fun r=>ih r 20000) fun nf=>bl (fB 256 sq) fun rX=>bl bY fun ne=>bl (n4 256) fun Qm=>cQ (⟨Qi,md,Qj,ac,Qk,Ql,nf,rX,ne,Qm⟩:bG)) q0)=
  Az (⟨(bY q0).1,(hI (bY q0).2).1,(fB 256 n6 di).1,(n5 (fB 256 n6 di).2).1,(fB 256 sn oT).1,(fB 256 (so (IntKind.wrap .u64)) vt).1,(ih vu 20000).1,(fB 256 sq tI).1,(bY tV).1,(n4 256 (bY tV).2).1⟩,(n4 256 (bY tV).2).2):=by
  simp only[bl,cQ,XF,XG,XH,XI,XJ,XK]
 rw[ah]
 unfold yx
 extract_lets v1 v4 ba
 have aD:v1=((bY q0).2,(bY q0).1):=by show eb ⟨x,0,0,true⟩=_;rw[show(⟨x,0,0,true⟩:bm)=q0 from ziJ];exact fT aS
 have dU:v4=(di,(hI (bY q0).2).1):=by show gq v1.1 60=_;rw[aD,←XF];exact lf ab
 obtain⟨i2,o8⟩:=xG (ρ:=bG × Int) (S:=n6) (f:=fun q=>((uI q).2,(uI q).1)) (fun q aG=>by rw[ek.lK.eq aG]) ek.lK.eX ae (v:=ba) (by show gT v4.1 256=_;rw[dU])
 refine(congrArg (Sum.elim _ _) o8).trans ?_
 rw[Sum.elim_inr]
 extract_lets b5 b3
 have DS:b5=(oT,(n5 (fB 256 n6 di).2).1):=by show qo (fB 256 n6 di).2=_;rw[ek.texts.eq aw,XG]
 obtain⟨i4,ziK⟩:=xG (ρ:=bG × Int) (S:=sn) (f:=fun q=>((uJ q).2,(uJ q).1)) (fun q aG=>by rw[ek.hj.eq aG]) ek.hj.eX aM (v:=b3) (by show gT b5.1 256=_;rw[DS])
 refine(congrArg (Sum.elim _ _) ziK).trans ?_
 rw[Sum.elim_inr]
 extract_lets v28
 obtain⟨i5,ziL⟩:=xG (ρ:=bG × Int) (S:=so (IntKind.wrap .u64)) (f:=fun q=>let ov:=gq q (60:Int);let ow:=eb ov.1;let v51:=eb ow.1;(⟨ov.2,⟨ow.2,(IntKind.wrap .u64 v51.2)⟩⟩,v51.1)) (fun q aG=>by
  have g1:=iE (n:=60) aG
  have g2:=eR g1
  simp only[lf aG,fT g1,fT g2]
  rfl) Qg bn (v:=v28) (by show gT (fB 256 sn oT).2 256=_;rw[XH])
 refine(congrArg (Sum.elim _ _) ziL).trans ?_
 rw[Sum.elim_inr]
 extract_lets v37 v40
 have DT:v37=(tI,(ih vu 20000).1):=by show gq (fB 256 (so (IntKind.wrap .u64)) vt).2 20000=_;rw[XI,lf cl,XJ]
 obtain⟨i7,ziM⟩:=xG (ρ:=bG × Int) (S:=sq) (f:=fun q=>let ou:=gq q (60:Int);let j7:=qn ou.1;(⟨ou.2,j7.2⟩,j7.1)) (fun q aG=>by
  have g1:=iE (n:=60) aG
  simp only[lf aG,ek.items.eq g1]
  rfl) Qh dW (v:=v40) (by show gT v37.1 256=_;rw[DT])
 refine(congrArg (Sum.elim _ _) ziM).trans ?_
 rw[Sum.elim_inr]
 extract_lets v49 ot sV v59
 have Io:v49=((bY tV).2,(bY tV).1):=by show eb (fB 256 sq tI).2=_;rw[XK,fT jI]
 have XL:ot=((n4 256 (bY tV).2).2,(n4 256 (bY tV).2).1):=by show wC v49.1 256=_;rw[Io];exact ek.ints.eq hG
 refine(ziH (q:=(n4 256 (bY tV).2).2) (v:=sV) (by show uK ot.1=_;rw[XL])).trans ?_
 rw[aD,dU,DS,DT,Io,XL]
 rfl
end Go.aK
namespace Go.aK
open Go Go.aK Go.fb
structure cx {α:Type} (R:Rd→α × Rd) (m:Rd→Rd × α) (p:Rd→Prop):Prop where
 eq: ∀{r:Rd},cD r.rest→m r=((R r).2,(R r).1)
 ok: ∀{r:Rd},cD r.rest→p r
 eX: ∀{r:Rd},cD r.rest→cD (R r).2.rest
section
variable {α ρ:Type} {R:Rd→α × Rd} {m:Rd→Rd × α} {p:Rd→Prop}
theorem XM(h: ∀{r:Rd},cD r.rest→cD (R r).2.rest): ∀(n:Nat) (l:List α) {r:Rd},cD r.rest→cD (lg R n l r).2.rest
 |0,_,_,ah=>ah
 |n+1,l,r,ah=>by
  unfold lg
  cases (cL (R r).2 != 0)with
  |true=>exact h ah
  |false=>exact XM h n _ (h ah)
theorem XN: ∀(n:Nat) (l:List α) {r:Rd},(lg R n l r).1.length≤l.length+n
 |0,_,_=>Nat.le_refl _
 |n+1,l,r=>by
  unfold lg
  cases (cL (R r).2 != 0)with
  |true=>simp
  |false=>
   simp only[cond_false]
   have:=XN n (l++[(R r).1]) (r:=(R r).2)
   simp only[List.length_append,List.length_singleton]at this;omega
noncomputable def DU(m:Rd→Rd × α)(K:List α→ByteArray→Int→Bool→ρ)(_:Nat)(c:(List α) × ByteArray × Int × Bool):Step ρ ((List α) × ByteArray × Int × Bool):=
 let v:=m ⟨c.2.1,c.2.2.1,c.2.2.2⟩
 let w:=fp v.1
 bif(w.2 != 0)then .ret (K ([]:List α) w.1.rest w.1.err w.1.made)
 else .bM ((List.append c.1 ([v.2]:List α)),w.1.rest,w.1.err,w.1.made)
theorem ziN(h:cx R m p)(K:List α→ByteArray→Int→Bool→ρ)(k:Nat)(l:List α){r:Rd}(ah:cD r.rest):
 DU m K k (l,r.rest,r.err,r.made)=bif(cL (R r).2 != 0)then .ret (K [] (R r).2.rest (R r).2.err (R r).2.made)else .bM (l++[(R r).1],(R r).2.rest,(R r).2.err,(R r).2.made):=by
 have aD:m ⟨r.rest,r.err,r.made⟩=((R r).2,(R r).1):=h.eq ah
 unfold DU
 simp only[aD,l9]
 rfl
theorem Ip(h:cx R m p)(K:List α→ByteArray→Int→Bool→ρ): ∀(n k:Nat) (l:List α) {r:Rd},cD r.rest→
 Sum.elim (fun r=>r) (fun c=>K c.1 c.2.1 c.2.2.1 c.2.2.2) (bJ (DU m K) k n (l,r.rest,r.err,r.made))=
 K (lg R n l r).1 (lg R n l r).2.rest (lg R n l r).2.err (lg R n l r).2.made
 |0,k,l,r,_=>rfl
 |n+1,k,l,r,ah=>by
  unfold bJ lg;rw[ziN h K k l ah]
  cases ag:(cL (R r).2 != 0)with
  |true=>rfl
  |false=>exact Ip h K n (k+1) _ (h.eX ah)
theorem XO(h:cx R m p)(nk:List α→ByteArray→Int→Bool→Prop)(n bytes:Nat)(hn:n≤256)(ag:bytes≤100000)(hK: ∀(l:List α) (r:Rd),cD r.rest→l.length≤n→nk l r.rest r.err r.made){r:Rd}(ah:cD r.rest):
 ∃bq:Nat→((List α) × ByteArray × Int × Bool)→Prop,bq 0 ([],r.rest,r.err,r.made)∧(∀(i:Nat) (d0:(List α) × ByteArray × Int × Bool),i<n→bq i d0→(
  let v:=m ⟨d0.2.1,d0.2.2.1,d0.2.2.2⟩
  (p ⟨d0.2.1,d0.2.2.1,d0.2.2.2⟩)∧
  let w:=fp v.1
  ((w.2 != 0)=true→nk ([]:List α) w.1.rest w.1.err w.1.made)∧((w.2 != 0)=false→(
   let v30:List α:=([v.2]:List α)
   (List.length d0.1+List.length v30≤maxLen∧(List.length d0.1+List.length v30)*bytes≤140737488355328)∧
   bq (i+1) ((List.append d0.1 v30),w.1.rest,w.1.err,w.1.made)))))∧∀aZ,bq n aZ→nk aZ.1 aZ.2.1 aZ.2.2.1 aZ.2.2.2:=by
 refine⟨fun i d=>d.1.length=i∧cD d.2.1,⟨rfl,ah⟩,fun i d hi ⟨ab,ae⟩=>?_,fun c ⟨ab,ae⟩=>hK c.1 ⟨c.2.1,c.2.2.1,c.2.2.2⟩ ae (by omega)⟩
 have aD:m ⟨d.2.1,d.2.2.1,d.2.2.2⟩=((R ⟨d.2.1,d.2.2.1,d.2.2.2⟩).2,(R ⟨d.2.1,d.2.2.1,d.2.2.2⟩).1):=h.eq (r:=⟨d.2.1,d.2.2.1,d.2.2.2⟩) ae
 have aw:=h.eX (r:=⟨d.2.1,d.2.2.1,d.2.2.2⟩) ae
 refine⟨h.ok (r:=⟨d.2.1,d.2.2.1,d.2.2.2⟩) ae,?_⟩
 simp only[aD,l9]
 refine⟨fun _=>hK [] _ aw (Nat.zero_le _),fun _=>⟨⟨?_,?_⟩,?_,aw⟩⟩
 ·simp only[List.length_singleton,maxLen];omega
 ·simp only[List.length_singleton]
  have:(d.1.length+1)*bytes≤256*100000:=Nat.mul_le_mul (by omega) ag
  omega
 ·show(d.1++[_]).length=i+1
  rw[List.length_append,ab];rfl
theorem ziO(h:cx R m p)(n bytes:Nat)(hn:n≤256)(ag:bytes≤100000){r:Rd}(ah:cD r.rest):
 ∃bq:Nat→((List α) × ByteArray × Int × Bool)→Prop,bq 0 ([],r.rest,r.err,r.made)∧∀(i:Nat) (d0:(List α) × ByteArray × Int × Bool),i<n→bq i d0→(
  let v:=m ⟨d0.2.1,d0.2.2.1,d0.2.2.2⟩
  (p ⟨d0.2.1,d0.2.2.1,d0.2.2.2⟩)∧
  let w:=fp v.1
  ((w.2 != 0)=false→(
   let v30:List α:=([v.2]:List α)
   (List.length d0.1+List.length v30≤maxLen∧(List.length d0.1+List.length v30)*bytes≤140737488355328)∧
   bq (i+1) ((List.append d0.1 v30),w.1.rest,w.1.err,w.1.made)))):=by
 obtain⟨I,ab,ae,_⟩:=XO h (fun _ _ _ _=>True) n bytes hn ag (fun _ _ _ _=>trivial) ah
 refine⟨I,ab,fun i d hi hd=>?_⟩
 have:=ae i d hi hd
 exact⟨this.1,this.2.2⟩
theorem Iq{r:Rd}:(cH r 256).1.toNat≤256∧0≤(cH r 256).1∧(cH r 256).1<9223372036854775808:=by
 have ab:=XP r 256
 have ae:(cH r 256).1≤256:=by
  unfold cH;simp only[cond_eq_ite]
  repeat' split
  all_goals first|(simp;done)|(rename_i h;simp only[decide_eq_true_eq,gt_iff_lt,Int.not_lt]at h;exact h)|skip
  all_goals simp_all
 omega
theorem vK(h: ∀{r:Rd},cD r.rest→cD (R r).2.rest){r:Rd}(ah:cD r.rest):cD (lM 256 R r).2.rest:=XM h _ _ (sw ah)
end
theorem cx.int:cx bx eg iR:=⟨gH,jr,eY⟩
theorem cx.word:cx ik jL rG:=⟨fun h=>by unfold jL;rw[Ir h];rfl,fun h=>DV h,fun h=>Is h⟩
theorem cx.item:cx P7 sS yq:=by
 refine⟨fun {r} h=>?_,fun {r} h=>?_,fun {r} h=>?_⟩
 ·have ab:=eY h
  have ae:=cx.word.eX ab
  have aw:=cx.word.eX ae
  have aM:=Qn aw
  unfold sS;simp only[gH h,cx.word.eq ab,cx.word.eq ae,XQ aw,gH aM];rfl
 ·have ab:=eY h
  have ae:=cx.word.eX ab
  have aw:=cx.word.eX ae
  have aM:=Qn aw
  unfold yq;simp only[gH h,cx.word.eq ab,cx.word.eq ae,XQ aw];exact⟨jr h,cx.word.ok ab,cx.word.ok ae,ziP aw,jr aM⟩
 ·exact eY (Qn (cx.word.eX (cx.word.eX (eY h))))
theorem cx.span:cx Ii Bs Fi:=by
 refine⟨fun {r} h=>?_,fun {r} h=>?_,fun {r} h=>eY (eY h)⟩
 ·unfold Bs
  simp only[gH h,gH (eY h)];rfl
 ·unfold Fi
  simp only[gH h];exact⟨jr h,jr (eY h)⟩
theorem cx.Qo{r:Rd}(h:cD r.rest):cD (vG r).2.rest:=vK cx.item.eX h
theorem cx.XR{r:Rd}(h:cD r.rest):cD (At r).2.rest:=vK cx.word.eX h
theorem cx.vE:cx P9 Bv Fm:=by
 refine⟨fun {r} h=>?_,fun {r} h=>?_,fun {r} h=>cx.Qo (cx.word.eX h)⟩
 ·have ab:=cx.word.eX h
  have ae:=sw (n:=256) ab
  unfold Bv
  extract_lets v1 cu v4
  have aD:v1=((ik r).2,(ik r).1):=cx.word.eq h
  have dU:v4=((cH (ik r).2 256).2,(cH (ik r).2 256).1):=by show gi v1.1 256=_;rw[aD];exact tW ab
  rw[dU];refine(Ip cx.item cu _ _ _ ae).trans ?_
  show(_,(⟨v1.2,_⟩:ch))=_;rw[aD];rfl
 ·have ab:=cx.word.eX h
  have ae:=sw (n:=256) ab
  unfold Fm;intro v1
  have aD:v1=((ik r).2,(ik r).1):=cx.word.eq h
  refine⟨cx.word.ok h,?_⟩
  intro v4
  have dU:v4=((cH (ik r).2 256).2,(cH (ik r).2 256).1):=by show gi v1.1 256=_;rw[aD];exact tW ab
  obtain⟨aB,bU,b7⟩:=Iq (r:=(ik r).2);rw[dU,aD];exact⟨It ab,⟨bU,b7⟩,ziO cx.item _ 80 aB (by decide) ae⟩
section
variable {α rM:Type} {R:Rd→α × Rd} {m:Rd→Rd × α} {p:Rd→Prop}
theorem Iu(h:cx R m p)(K:List α→ByteArray→Int→Bool→Rd × rM)(N:List α→Rd→rM × Rd){ra:Rd}{v:Rd × Int}(aS:cD ra.rest)(az:v=gi ra 256)
 (hK: ∀(l:List α) (r:Rd),cD r.rest→K l r.rest r.err r.made=((N l r).2,(N l r).1)):
 Sum.elim (fun r=>r) (fun c=>K c.1 c.2.1 c.2.2.1 c.2.2.2) (bJ (DU m K) 0 (Int.toNat v.2) ([],v.1.rest,v.1.err,v.1.made))=((bl (lM 256 R) N ra).2,(bl (lM 256 R) N ra).1):=by
 rw[tW aS]at az
 rw[az]
 exact(Ip h K _ _ _ (sw aS)).trans (hK _ _ (vK h.eX aS))
theorem tX(h:cx R m p)(nk:List α→ByteArray→Int→Bool→Prop)(bytes:Nat)(ag:bytes≤100000){ra:Rd}{v:Rd × Int}(aS:cD ra.rest)(az:v=gi ra 256)
 (hK: ∀(l:List α) (r:Rd),cD r.rest→nk l r.rest r.err r.made):
 (m2 ra 256)∧(0≤v.2∧v.2<(9223372036854775808:Int))∧
 ∃bq:Nat→((List α) × ByteArray × Int × Bool)→Prop,bq 0 ([],v.1.rest,v.1.err,v.1.made)∧(∀(i:Nat) (d0:(List α) × ByteArray × Int × Bool),i<Int.toNat v.2→bq i d0→(
  let v:=m ⟨d0.2.1,d0.2.2.1,d0.2.2.2⟩
  (p ⟨d0.2.1,d0.2.2.1,d0.2.2.2⟩)∧
  let w:=fp v.1
  ((w.2 != 0)=true→nk ([]:List α) w.1.rest w.1.err w.1.made)∧((w.2 != 0)=false→(
   let v30:List α:=([v.2]:List α)
   (List.length d0.1+List.length v30≤maxLen∧(List.length d0.1+List.length v30)*bytes≤140737488355328)∧
   bq (i+1) ((List.append d0.1 v30),w.1.rest,w.1.err,w.1.made)))))∧∀aZ,bq (Int.toNat v.2) aZ→nk aZ.1 aZ.2.1 aZ.2.2.1 aZ.2.2.2:=by
 rw[tW aS]at az
 obtain⟨aB,bU,b7⟩:=Iq (r:=ra)
 rw[az]
 exact⟨It aS,⟨bU,b7⟩,XO h nk _ bytes aB ag (fun l r ah _=>hK l r ah) (sw aS)⟩
end
theorem ziQ{r:Rd}(h:cD r.rest):yr r=((vH r).2,(vH r).1):=by
 have ab:=eY h
 have ae:=eY ab
 have aw:=eY ae
 unfold yr
 extract_lets v1 v4 ba cu v10
 have aD:v1=((bx r).2,(bx r).1):=gH h
 have dU:v4=((bx (bx r).2).2,(bx (bx r).2).1):=by show eg v1.1=_;rw[aD];exact gH ab
 have Iv:ba=((bx (bx (bx r).2).2).2,(bx (bx (bx r).2).2).1):=by show eg v4.1=_;rw[dU];exact gH ae
 have hd:vH r=bl vG (fun p=>bl vG fun q=>bl bx fun w=>bl bx fun k=>bl bx fun s=>bl bx fun h=>cQ ⟨v1.2,v4.2,ba.2,p,q,w,k,s,h⟩) (bx (bx (bx r).2).2).2:=by rw[aD,dU,Iv];simp only[vH,bl]
 rw[hd]
 refine Iu cx.item cu (fun p=>bl vG fun q=>bl bx fun w=>bl bx fun k=>bl bx fun s=>bl bx fun h=>cQ (⟨v1.2,v4.2,ba.2,p,q,w,k,s,h⟩:bS)) aw (by show gi ba.1 256=_;rw[Iv]) fun l pM aM=>?_
 unfold cu
 extract_lets gj cn
 refine Iu cx.item gj (fun q=>bl bx fun w=>bl bx fun k=>bl bx fun s=>bl bx fun h=>cQ (⟨v1.2,v4.2,ba.2,l,q,w,k,s,h⟩:bS)) aM rfl fun ya lh bn=>?_
 have cl:=eY bn
 have dW:=eY cl
 have jI:=eY dW
 unfold gj
 have qx:eg ⟨lh.rest,lh.err,lh.made⟩=((bx lh).2,(bx lh).1):=gH bn
 simp only[qx,gH cl,gH dW,gH jI,bl,cQ]
theorem ziR{r:Rd}(h:cD r.rest):Br r:=by
 have ab:=eY h
 have ae:=eY ab
 have aw:=eY ae
 unfold Br
 intro v1
 have aD:v1=((bx r).2,(bx r).1):=gH h
 refine⟨jr h,?_⟩
 intro v4
 have dU:v4=((bx (bx r).2).2,(bx (bx r).2).1):=by show eg v1.1=_;rw[aD];exact gH ab
 refine⟨by rw[aD];exact jr ab,?_⟩
 intro ba
 have Iv:ba=((bx (bx (bx r).2).2).2,(bx (bx (bx r).2).2).1):=by show eg v4.1=_;rw[dU];exact gH ae
 refine⟨by rw[dU];exact jr ae,?_⟩
 intro cu v10
 have dW:cD ba.1.rest:=by rw[Iv];exact aw
 refine tX cx.item cu 80 (by decide) dW rfl fun l pM aM=>?_
 unfold cu
 intro gj cn
 refine tX cx.item gj 80 (by decide) aM rfl fun ya lh bn=>?_
 unfold gj
 have cl:=eY bn
 have dW:=eY cl
 have qx:eg ⟨lh.rest,lh.err,lh.made⟩=((bx lh).2,(bx lh).1):=gH bn
 simp only[qx,gH cl,gH dW]
 exact⟨jr (r:=lh) bn,jr cl,jr dW,jr (eY dW)⟩
theorem ziS{r:Rd}(h:cD r.rest):cD (vH r).2.rest:=eY (eY (eY (eY (cx.Qo (cx.Qo (eY (eY (eY h))))))))
theorem cx.lK:cx vH yr Br:=⟨ziQ,ziR,ziS⟩
theorem ziT{s:ByteArray}{c:UInt8}{t:List UInt8}(h:s.data.toList=c::t):m1 s 0=(c.toNat:Int)∧0<s.size∧s≠⟨#[]⟩:=by
 have ao:s.size=s.data.toList.length:=rfl
 refine⟨?_,by rw[ao,h];simp,fun e=>by subst e;cases h⟩
 unfold m1
 rw[h]
 rfl
theorem cx.o0:cx n1 yt Fj:=by
 refine⟨fun {r} h=>?_,fun {r} h=>?_,fun {r} h=>?_⟩
 ·unfold yt n1
  simp only[l9]
  cases (cL r != 0)with
  |true=>rfl
  |false=>
   simp only[cond_false]
   cases av:r.rest.data.toList with
   |nil=>
    have:r.rest=⟨#[]⟩:=pT (by rw[av])
    have he:iS .eql r.rest (⟨#[]⟩:ByteArray)=true:=by rw[this];decide
    simp only[he,cond_true]
   |cons c t=>
    obtain⟨fV,h3,iB⟩:=ziT av
    have he:iS .eql r.rest (⟨#[]⟩:ByteArray)=false:=by
     show gB _ _=false;exact XS.2 iB
    simp only[he,cond_false,fV]
    have d1:decide ((c.toNat:Int)>1)=decide (1<c.toNat):=decide_eq_decide.2 (by omega)
    rw[d1]
    cases decide (1<c.toNat)with
    |true=>rfl
    |false=>
     simp only[cond_false]
     have d2:((c.toNat:Int)==1)=decide (c.toNat=1):=by
      rw[Bool.eq_iff_iff];simp only[beq_iff_eq,decide_eq_true_eq];omega
     rw[d2];rfl
 ·unfold Fj
  simp only[l9];intro _ he
  have bW:r.rest≠⟨#[]⟩:=XS.1 he
  have Tj:0<r.rest.size:=by
   rcases Nat.eq_zero_or_pos r.rest.size with aS|aS
   ·exact absurd (pT (by
     have:r.rest.data.toList.length=0:=aS
     rw[List.eq_nil_of_length_eq_zero this])) bW
   ·exact aS
  refine⟨⟨Int.le_refl _,by omega⟩,fun _=>⟨⟨Int.le_refl _,by omega⟩,by decide,by omega⟩⟩
 ·unfold n1
  cases (cL r != 0)with
  |true=>exact h
  |false=>
   simp only[cond_false]
   split
   ·exact h
   ·simp only[cond_eq_ite]
    split
    ·exact h
    ·exact Qp h
theorem cx.hj:cx Ij Bt Fk:=by
 refine⟨fun {r} h=>?_,fun {r} h=>?_,fun {r} h=>cx.o0.eX (cx.XR (vK cx.span.eX (eY (cx.word.eX h))))⟩
 ·have ab:=cx.word.eX h
  have ae:=eY ab
  unfold Bt
  extract_lets v1 v4 cu ba
  have aD:v1=((ik r).2,(ik r).1):=cx.word.eq h
  have dU:v4=((bx (ik r).2).2,(bx (ik r).2).1):=by show eg v1.1=_;rw[aD];exact gH ab
  have hd:Ij r=bl (lM 256 Ii) (fun s=>bl At fun l=>bl n1 fun h=>cQ ⟨v1.2,v4.2,s,l,h⟩) (bx (ik r).2).2:=by rw[aD,dU];rfl
  rw[hd];refine Iu cx.span cu (fun s=>bl At fun l=>bl n1 fun h=>cQ (⟨v1.2,v4.2,s,l,h⟩:bC)) ae (by show gi v4.1 256=_;rw[dU]) fun l pM aM=>?_
  unfold cu
  extract_lets gj cn
  refine Iu cx.word gj (fun q=>bl n1 fun h=>cQ (⟨v1.2,v4.2,l,q,h⟩:bC)) aM rfl fun ya lh bn=>?_
  unfold gj
  have qx:yt ⟨lh.rest,lh.err,lh.made⟩=((n1 lh).2,(n1 lh).1):=cx.o0.eq bn
  simp only[qx];rfl
 ·have ab:=cx.word.eX h
  have ae:=eY ab
  unfold Fk;intro v1
  have aD:v1=((ik r).2,(ik r).1):=cx.word.eq h
  refine⟨cx.word.ok h,?_⟩
  intro v4
  have dU:v4=((bx (ik r).2).2,(bx (ik r).2).1):=by show eg v1.1=_;rw[aD];exact gH ab
  refine⟨by rw[aD];exact jr ab,?_⟩
  intro cu ba
  have dW:cD v4.1.rest:=by rw[dU];exact ae
  refine tX cx.span cu 16 (by decide) dW rfl fun l pM aM=>?_
  unfold cu;intro gj cn;exact tX cx.word gj 16 (by decide) aM rfl fun ya lh bn=>cx.o0.ok bn
theorem cx.vD:cx (P8 (IntKind.wrap .u64)) Bu Fl:=by
 refine⟨fun {r} h=>?_,fun {r} h=>?_,fun {r} h=>eY (eY (cx.word.eX h))⟩
 ·have ab:=cx.word.eX h
  have ae:=eY ab
  unfold Bu;simp only[cx.word.eq h,gH ab,gH ae];rfl
 ·have ab:=cx.word.eX h
  have ae:=eY ab
  unfold Fl;simp only[cx.word.eq h,gH ab];exact⟨cx.word.ok h,jr ab,jr ae⟩
end Go.aK
namespace Go.aK
open Go Go.aK Go.fb
theorem XT(r:Rd):wx r=(r,n3 r):=by
 unfold wx n3
 simp only[l9]
 cases (cL r != 0)<;>rfl
theorem XU{r:Rd}: ∀(F:Nat) {r:Rd},cD r.rest→cD (drain F r).rest
 |0,_,h=>h
 |F+1,r,h=>by
  unfold drain
  cases (cL r==0)with
  |true=>exact XU (r:=r) F (eY h)
  |false=>exact h
theorem XV{ρ:Type}{b:ByteArray × Int × Bool→Step ρ (ByteArray × Int × Bool)}(ag: ∀r:Rd,cD r.rest→b (r.rest,r.err,r.made)=bif cL r==0 then .bM ((bx r).2.rest,(bx r).2.err,(bx r).2.made)else .c9 (r.rest,r.err,r.made)):
 ∀(F:Nat) (r:Rd),cD r.rest→dA b F (r.rest,r.err,r.made)= .inr ((drain F r).rest,(drain F r).err,(drain F r).made)
 |0,_,_=>rfl
 |F+1,r,h=>by
  unfold dA drain;rw[ag r h]
  cases (cL r==0)with
  |true=>exact XV ag F _ (eY h)
  |false=>rfl
theorem Qq: ∀(n:Nat) (l:List Int) {r:Rd},cD r.rest→cD (ij n l r).2.rest
 |0,_,_,h=>h
 |n+1,l,r,h=>Qq n _ (eY h)
theorem XW{ρ:Type}{b:Nat→(List Int) × ByteArray × Int × Bool→Step ρ ((List Int) × ByteArray × Int × Bool)}(ag: ∀(i:Nat) (l:List Int) (r:Rd),cD r.rest→b i (l,r.rest,r.err,r.made)= .bM (l++[(bx r).1],(bx r).2.rest,(bx r).2.err,(bx r).2.made)):
 ∀(n k:Nat) (l:List Int) (r:Rd),cD r.rest→bJ b k n (l,r.rest,r.err,r.made)= .inr ((ij n l r).1,(ij n l r).2.rest,(ij n l r).2.err,(ij n l r).2.made)
 |0,_,_,_,_=>rfl
 |n+1,k,l,r,h=>by
  unfold bJ ij;rw[ag k l r h];exact XW ag n (k+1) _ _ (eY h)
theorem cx.ints:cx (pV dt 256) (fun r=>rH r 256) (fun r=>Bw r 256):=by
 refine⟨fun {r} h=>?_,fun {r} h=>?_,fun {r} h=>?_⟩
 ·have ab:=sw (n:=256) h
  show rH r 256=_;unfold rH pV;rw[tW h];dsimp only;rw[XT]
  cases hd:decide ((cH r 256).1>n3 (cH r 256).2)with
  |true=>
   simp only[cond_true];rw[XV (fun q aG=>?_) dt (cH r 256).2 ab]
   ·rfl
   ·have e:fp ⟨q.rest,q.err,q.made⟩=(q,cL q):=l9 q
    simp only[e,gH aG]
  |false=>
   simp only[cond_false];rw[XW (fun i l q aG=>?_) _ 0 [] (cH r 256).2 ab]
   ·have e:fp ⟨(ij (cH r 256).1.toNat [] (cH r 256).2).2.rest,(ij (cH r 256).1.toNat [] (cH r 256).2).2.err,(ij (cH r 256).1.toNat [] (cH r 256).2).2.made⟩=((ij (cH r 256).1.toNat [] (cH r 256).2).2,_):=l9 (ij (cH r 256).1.toNat [] (cH r 256).2).2
    simp only[Sum.elim_inr,e]
    cases (cL (ij (cH r 256).1.toNat [] (cH r 256).2).2 != 0)<;>rfl
   ·have e:eg ⟨q.rest,q.err,q.made⟩=((bx q).2,(bx q).1):=gH aG
    simp only[e];rfl
 ·have ab:=sw (n:=256) h
  obtain⟨aB,bU,b7⟩:=Iq (r:=r);show Bw r 256;unfold Bw;rw[tW h];refine⟨It h,?_⟩
  simp only[XT];refine⟨fun _=>⟨fun d=>cD d.1,fun d=>d.1.size+(bif d.2.1==0 then 1 else 0),ab,?_,fun d hd=>?_⟩,fun _=>⟨⟨bU,b7⟩,fun i d=>d.1.length=i∧cD d.2.1,⟨rfl,ab⟩,fun i d hi ⟨av,hd⟩=>?_⟩⟩
  ·have:(cH r 256).2.rest.size≤4611686018427387904:=ab
   have ae: ∀b:Bool,(bif b then 1 else 0:Nat)≤1:=fun b=>by cases b<;>decide
   have:=ae ((cH r 256).2.err==0)
   show(cH r 256).2.rest.size+(bif(cH r 256).2.err==0 then 1 else 0)<dt
   unfold dt;omega
  ·have e:fp ⟨d.1,d.2.1,d.2.2⟩=(⟨d.1,d.2.1,d.2.2⟩,cL ⟨d.1,d.2.1,d.2.2⟩):=l9 ⟨d.1,d.2.1,d.2.2⟩
   have ux:cD (⟨d.1,d.2.1,d.2.2⟩:Rd).rest:=hd
   simp only[e];intro he;rw[gH ux];refine⟨jr ux,eY ux,?_⟩
   have tc:cL ⟨d.1,d.2.1,d.2.2⟩=0:=by simpa using he
   have XX:d.2.1=0∧d.2.2=true:=by
    unfold cL at tc
    cases hm:d.2.2 with
    |true=>rw[hm]at tc;exact⟨tc,rfl⟩
    |false=>rw[hm]at tc;cases tc
   show(bx ⟨d.1,d.2.1,d.2.2⟩).2.rest.size+_<d.1.size+_;rw[XX.1];simp only[beq_self_eq_true,cond_true]
   by_cases hx:cL (bx ⟨d.1,0,d.2.2⟩).2=0
   ·have:=XY hx
    have ae: ∀b:Bool,(bif b then 1 else 0:Nat)≤1:=fun b=>by cases b<;>decide
    have:=ae ((bx ⟨d.1,0,d.2.2⟩).2.err==0)
    have aw:(⟨d.1,0,d.2.2⟩:Rd).rest.size=d.1.size:=rfl
    omega
   ·have hm:(bx ⟨d.1,0,d.2.2⟩).2.made=d.2.2∧((bx ⟨d.1,0,d.2.2⟩).2.rest.size≤d.1.size):=by
     unfold bx;simp only[cond_eq_ite]
     repeat' split
     all_goals first|exact⟨rfl,Nat.le_refl _⟩|(refine⟨rfl,?_⟩;show(ByteArray.extract _ _ _).size≤_;rw[ByteArray.size_extract];omega)
    have bW:((bx ⟨d.1,0,d.2.2⟩).2.err==0)=false:=by
     have XZ:(bx ⟨d.1,0,d.2.2⟩).2.made=true:=hm.1.trans XX.2
     generalize (bx ⟨d.1,0,d.2.2⟩).2=X at hx XZ⊢;unfold cL at hx;rw[XZ]at hx;simpa using hx
    rw[bW];simp only[cond_false];omega
  ·have e:eg ⟨d.2.1,d.2.2.1,d.2.2.2⟩=((bx ⟨d.2.1,d.2.2.1,d.2.2.2⟩).2,(bx ⟨d.2.1,d.2.2.1,d.2.2.2⟩).1):=gH (r:=⟨d.2.1,d.2.2.1,d.2.2.2⟩) hd
   simp only[e];refine⟨jr (r:=⟨d.2.1,d.2.2.1,d.2.2.2⟩) hd,⟨?_,?_⟩,?_,eY (r:=⟨d.2.1,d.2.2.1,d.2.2.2⟩) hd⟩
   ·simp only[List.length_singleton,maxLen];omega
   ·simp only[List.length_singleton];omega
   ·show(d.1++[_]).length=i+1
    rw[List.length_append,av];rfl
 ·have ab:=sw (n:=256) h
  unfold pV;simp only[cond_eq_ite]
  split
  ·exact XU (r:=r) _ ab
  ·split
   ·exact Qq _ _ ab
   ·exact Qq _ _ ab
abbrev xH:=Int × ByteArray × (List bS) × (List ByteArray) × (List bC) × (List cm) × ByteArray × (List ch) × Int × (List Int) × ByteArray × Int × Bool
def sx(s:bG)(r:Rd):xH:=(s.gU,s.mode,s.fY,s.ju,s.members,s.fg,s.source,s.eB,s.next,s.j5,r.rest,r.err,r.made)
theorem DW{α ρ:Type}{R:Rd→α × Rd}{m:Rd→Rd × α}{p:Rd→Prop}(h:cx R m p)(u:List α→bG){r:Rd}(ah:cD r.rest):
 Sum.elim (fun r=>r) (fun c=>(Step.bM (sx (u c.1) ⟨c.2.1,c.2.2.1,c.2.2.2⟩):Step ρ xH)) (bJ (DU m (fun l a b c=>(Step.bM (sx (u l) ⟨a,b,c⟩):Step ρ xH))) 0 (Int.toNat (gi r 256).2) ([],(gi r 256).1.rest,(gi r 256).1.err,(gi r 256).1.made))=
 .bM (sx (bl (lM 256 R) (fun x=>cQ (u x)) r).1 (bl (lM 256 R) (fun x=>cQ (u x)) r).2):=by
 rw[tW ah]
 exact Ip h (fun l a b c=>(Step.bM (sx (u l) ⟨a,b,c⟩):Step ρ xH)) _ _ _ (sw ah)
theorem DX{α ρ:Type}{R:Rd→α × Rd}(V:Rd × α)(u:α→bG){r:Rd}(mJ:V=((R r).2,(R r).1)):
 (Step.bM (sx (u V.2) V.1):Step ρ xH)= .bM (sx (bl R (fun x=>cQ (u x)) r).1 (bl R (fun x=>cQ (u x)) r).2):=by rw[mJ];rfl
theorem ziU(i:Nat)(s:bG){r:Rd}(h:cD r.rest):cD (sr (IntKind.wrap .u64) i s r).2.rest:=by
 unfold sr
 split
 ·exact eY h
 ·exact cx.word.eX h
 ·exact vK cx.lK.eX h
 ·exact cx.XR h
 ·exact vK cx.hj.eX h
 ·exact vK cx.vD.eX h
 ·exact Is h
 ·exact vK cx.vE.eX h
 ·exact eY h
 ·exact cx.ints.eX h
theorem X0{ρ:Type}{b:Nat→xH→Step ρ xH}(ag: ∀(i:Nat) (s:bG) (r:Rd),i<10→cD r.rest→b i (sx s r)= .bM (sx (sr (IntKind.wrap .u64) i s r).1 (sr (IntKind.wrap .u64) i s r).2)):
 ∀(n k:Nat) (s:bG) (r:Rd),k+n≤10→cD r.rest→bJ b k n (sx s r)= .inr (sx (ss (IntKind.wrap .u64) (fun _=>true) n k s r).1 (ss (IntKind.wrap .u64) (fun _=>true) n k s r).2)
 |0,_,_,_,_,_=>rfl
 |n+1,k,s,r,an,ah=>by
  unfold bJ;rw[ag k s r (by omega) ah]
  exact X0 ag n (k+1) _ _ (by omega) (ziU k s ah)
theorem ziV{x:ByteArray}(h:cD x):sT x=(let q:=ss (IntKind.wrap .u64) (fun _=>true) 10 0 ⟨0,⟨#[]⟩,[],[],[],[],⟨#[]⟩,[],0,[]⟩ (vL x)
    if sy q.2=0 then(q.1,0)else(⟨0,⟨#[]⟩,[],[],[],[],⟨#[]⟩,[],0,[]⟩,sy q.2)):=by
  unfold sT;refine(congrArg (Sum.elim _ _) (X0 (fun i s r hi ah=>?_) 10 0 ⟨0,⟨#[]⟩,[],[],[],[],⟨#[]⟩,[],0,[]⟩ (vL x) (by decide) h)).trans ?_
  · have DY:eg ⟨r.rest,r.err,r.made⟩=((bx r).2,(bx r).1):=gH ah
    have Qr:jL ⟨r.rest,r.err,r.made⟩=((ik r).2,(ik r).1):=cx.word.eq ah
    have Qs:pc ⟨r.rest,r.err,r.made⟩ 20000=((iZ r 20000).2,(iZ r 20000).1):=Ir ah
    have Qt:rH ⟨r.rest,r.err,r.made⟩ 256=((pV dt 256 r).2,(pV dt 256 r).1):=cx.ints.eq ah
    match i,hi with
    |0,_=>exact DX (R:=bx) (eg ⟨r.rest,r.err,r.made⟩) (fun x=>{s with gU:=x}) DY
    |1,_=>exact DX (R:=ik) (jL ⟨r.rest,r.err,r.made⟩) (fun x=>{s with mode:=x}) Qr
    |2,_=>exact DW cx.lK (fun l=>{s with fY:=l}) ah
    |3,_=>exact DW cx.word (fun l=>{s with ju:=l}) ah
    |4,_=>exact DW cx.hj (fun l=>{s with members:=l}) ah
    |5,_=>exact DW cx.vD (fun l=>{s with fg:=l}) ah
    |6,_=>exact DX (R:=fun r=>iZ r 20000) (pc ⟨r.rest,r.err,r.made⟩ 20000) (fun x=>{s with source:=x}) Qs
    |7,_=>exact DW cx.vE (fun l=>{s with eB:=l}) ah
    |8,_=>exact DX (R:=bx) (eg ⟨r.rest,r.err,r.made⟩) (fun x=>{s with next:=x}) DY
    |9,_=>exact DX (R:=pV dt 256) (rH ⟨r.rest,r.err,r.made⟩ 256) (fun x=>{s with j5:=x}) Qt
  · generalize ss (IntKind.wrap .u64) (fun _=>true) 10 0 ⟨0,⟨#[]⟩,[],[],[],[],⟨#[]⟩,[],0,[]⟩ (vL x)=q
    show(let cn:=Bx q.2;bif(cn.2 != 0)then((⟨0,⟨#[]⟩,[],[],[],[],⟨#[]⟩,[],0,[]⟩:bG),cn.2)else(q.1,0))=_
    dsimp only;rw[ziW]
    by_cases aT:sy q.2=0
    · rw[if_pos aT,aT]
      rfl
    · rw[if_neg aT,show(sy q.2 != 0)=true by simpa using aT]
      rfl
end Go.aK
namespace Go.aK
open Go Go.aK Go.fb
theorem zbl{x:ByteArray}(h:cD x):Fo x:=by
 unfold Fo
 refine⟨fun _ d=>cD d.2.2.2.2.2.2.2.2.2.2.1,h,fun i d _ hd=>?_⟩
 obtain⟨d1,d2,d3,d4,d5,d6,d7,d8,d9,d10,a,b,c⟩:=d
 have ah:cD (⟨a,b,c⟩:Rd).rest:=hd
 have DY:=gH ah
 have Qr:=cx.word.eq ah
 have Qs:=Ir (n:=20000) ah
 have Qt:rH ⟨a,b,c⟩ 256=_:=cx.ints.eq ah
 dsimp only
 refine⟨fun _=>⟨jr ah,?_⟩,fun _=>⟨fun _=>⟨cx.word.ok ah,?_⟩,fun _=>⟨fun _=>?_,fun _=>⟨fun _=>?_,fun _=>⟨fun _=>?_,fun _=>⟨fun _=>?_,fun _=>⟨fun _=>⟨DV ah,?_⟩,fun _=>⟨fun _=>?_,fun _=>⟨fun _=>⟨jr ah,?_⟩,fun _=>⟨fun _=>⟨cx.ints.ok ah,?_⟩,fun _=>hd⟩⟩⟩⟩⟩⟩⟩⟩⟩⟩
 ·show cD (eg ⟨a,b,c⟩).1.rest
  rw[DY];exact eY ah
 ·show cD (jL ⟨a,b,c⟩).1.rest
  rw[Qr];exact cx.word.eX ah
 ·exact tX cx.lK (fun _ a _ _=>cD a) 104 (by decide) ah rfl fun l pM aM=>aM
 ·exact tX cx.word (fun _ a _ _=>cD a) 16 (by decide) ah rfl fun l pM aM=>aM
 ·exact tX cx.hj (fun _ a _ _=>cD a) 80 (by decide) ah rfl fun l pM aM=>aM
 ·exact tX cx.vD (fun _ a _ _=>cD a) 32 (by decide) ah rfl fun l pM aM=>aM
 ·show cD (pc ⟨a,b,c⟩ 20000).1.rest
  rw[Qs];exact Is ah
 ·exact tX cx.vE (fun _ a _ _=>cD a) 40 (by decide) ah rfl fun l pM aM=>aM
 ·show cD (eg ⟨a,b,c⟩).1.rest
  rw[DY];exact eY ah
 ·show cD (rH ⟨a,b,c⟩ 256).1.rest
  rw[Qt];exact cx.ints.eX ah
end Go.aK
