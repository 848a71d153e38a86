/- Conditions: none. -/
import Derived.Test.YtddeffoppnlafaaGreatJYq
import Derived.Test.YtddeffoppnlafaaGreatJTEr
import Derived.Test.YtddeffoppnlafaaGreatJPn
open Bool renaming and_eq_true->zZr,and_self->zVg,eq_iff_iff->zU3,not_eq_false'->zU7,not_true->zU5,or_eq_false_iff->zUx,true_and->zVf
open ByteArray renaming append->zYx,append_assoc->zUz,data_append->zUf,extract->zU4,size->zZ6,size_append->zV6,size_extract->zUb
open Int renaming le_refl->zW1,natCast_nonneg->zU6,toNat->zZ9,toNat_natCast->zW8
open List renaming append->zYz,getD->zZ8,getD_eq_getElem?_getD->zZe,getElem?_eq_getElem->zZa,getElem?_eq_some_iff->zZ1,length->zZ5,length_append->zVu,length_nil->zU1,length_singleton->zU2,mem_of_getElem?->zZ4
open Nat renaming le_refl->zZv,mul_le_mul->zUl,mul_le_mul_right->zYb,succ_mul->zYp,zero_add->zZ0,zero_le->zXx
open Sum renaming elim->zZ7,elim_inr->zV9
namespace Go.aH
open Go Go.aH Go.eT
theorem bP.val:bM S8 y7 IW ti 80:=by
 refine⟨λ{v} ⟨aa,ae,aw⟩=>?_,λ{v} ⟨aa,ae,aw⟩=>?_,λ_=>GV _⟩
 ·unfold y7 ti
  rw[zci,<-zbE]
  by_cases aW:lW v=0
  ·rw[if_pos aW,aW]
   rcases zb1 aW with⟨k,_,_⟩|⟨k,_,_⟩|⟨k,_,_⟩
   ·simp only[k]
    exact bP.int.eq pK
   ·have an:v.kind≠0/\v.kind≠4:=by omega
    rw[if_neg an.1,if_neg an.2,<-bP.int.eq aa,<-bP.int.eq ae]
    rcases k with k|k|k<;>rw[k]<;>rfl
   ·rw[k,if_neg (by decide),if_pos rfl,<-bP.text.eq aw,<-bP.int.eq (x:=4) ⟨by omega,by omega⟩]
    rfl
  ·rw[if_neg aW,show(lW v != 0)=true by simpa using aW,<-bP.int.eq pK]
   rfl
 ·have key: ∀(k n:Int) (s:ByteArray),dS k->dS n->jl s->((fX k)/\(p7 s)/\(dm k).size+(ke s).size<=9223372036854775807)/\((fX k)/\(fX n)/\(dm k).size+(dm n).size<=9223372036854775807):=λk n s a b c=>by
   have s1:=dx k;have s2:=dx n;have jc:=j9 c;rw[bP.int.eq a,bP.int.eq b,bP.text.eq c];exact⟨⟨bP.int.ok a,bP.text.ok c,by omega⟩,bP.int.ok a,bP.int.ok b,by omega⟩
  unfold IW;dsimp only;refine⟨λ_=>?_,λ_=>?_⟩
  ·have:=key 0 0 ⟨#[]⟩ pK pK (zXx _)
   exact⟨λ_=>bP.int.ok pK,λ_=>⟨λ_=>this.1,λ_=>this.2⟩⟩
  ·have:=key v.kind v.n v.s aa ae aw
   exact⟨λ_=>bP.int.ok pK,λ_=>⟨λ_=>this.1,λ_=>this.2⟩⟩
def tj(x:bB):Prop:=dS x.key.dev/\jl x.key.oG/\jl x.key.attr/\S8 x.value/\dS x.version
def rL(x:bB):ByteArray:=fo x.key.dev++m2 x.key.oG++m2 x.key.attr++ti x.value++fo x.version
theorem S9{x:bB}(h:tj x):(rL x).size<=3145728:=by
 obtain⟨aa,ae,aw,aN,bx⟩:=h;have a:=dx x.key.dev;have b:=j9 ae;have c:=j9 aw;have d:=GV x.value;have e:=dx x.version;unfold rL;simp only[zV6];omega
theorem j5(a b:ByteArray):zYx a b=a++b:=rfl
theorem bM.item:bM tj vc Bh rL 3145728:=by
 refine⟨λ{x} ⟨aa,ae,aw,aN,bx⟩=>?_,λ{x} ⟨aa,ae,aw,aN,bx⟩=>?_,λh=>S9 h⟩
 ·unfold vc rL
  rw[bM.int.eq aa,bM.text.eq ae,bM.text.eq aw,show y5 ⟨x.value.kind,x.value.n,x.value.s⟩=ti x.value from bM.val.eq aN,bM.int.eq bx]
  rfl
 ·have a:=dx x.key.dev
  have b:=j9 ae;have c:=j9 aw;have d:=GV x.value;have e:=dx x.version;unfold Bh;have ev:y5 ⟨x.value.kind,x.value.n,x.value.s⟩=ti x.value:=bM.val.eq aN;simp only[bM.int.eq aa,bM.text.eq ae,bM.text.eq aw,ev,bM.int.eq bx,j5,zV6];exact⟨bM.int.ok aa,bM.text.ok ae,by omega,bM.text.ok aw,by omega,bM.val.ok (x:=x.value) aN,by omega,bM.int.ok bx,by omega⟩
section
variable {α ρ:Type} {V:α->Prop} {m:α->ByteArray} {p:α->Prop} {e:α->ByteArray} {C:Nat}
def jd(e:α->ByteArray)(d:α)(l:List α):ByteArray:=fo l.length++An (λi=>e (zZ8 l i d)) 0 l.length
theorem zcx{f:Nat->ByteArray}: ∀(n k:Nat),(∀i,k<=i->i<k+n->(f i).size<=C)->(An f k n).size<=n*C
 |0,_,_=>zXx _|n+1,k,h=>by
  unfold An;rw[zV6];have aa:=h k (zZv _) (by omega)
  have ae:=zcx n (k+1) λi a b=>h i (by omega) (by omega)
  rw[zYp];omega
theorem nA{l:List α}{i:Nat}{d:α}(h:i<l.length):zZ8 l i d∈l:=by
 rw[zZe,zZa h];exact List.getElem_mem h
theorem uJ(my: ∀{x:α},V x->(e x).size<=C){d:α}{l:List α}(au:l.length<=40)(oe: ∀x∈l,V x):(jd e d l).size<=10+40*C:=by
 unfold jd;rw[zV6];have aa:=dx (l.length:Int);have ae:=zcx (C:=C) (f:=λi=>e (zZ8 l i d)) l.length 0 λi _ hi=>my (oe _ (nA (by omega)))
 have:l.length*C<=40*C:=zYb _ au;omega
theorem xV(a:ByteArray):zZ5 (cx.den .da a:List Int)=a.size:=by
 show(List.map (λu:UInt8=>(u.toNat:Int)) a.data.toList).length=_;rw[List.length_map];rfl
theorem znY(a:ByteArray):bytesOf (cx.den .da a)=a:=by
 have:=Lm [] a;rw[List.nil_append]at this;rw[this];exact uI (by rw[zUf,Array.toList_append,Ah];rfl)
theorem jJ{l:List α}(au:l.length<=40):dS (l.length:Int):=⟨by omega,by omega⟩
noncomputable def LI(ρ:Type)(m:α->ByteArray)(d:α)(l:List α)(i:Nat)(c:List Int):Step ρ (List Int):=
 .bJ (zYz c (cx.den .da (m (zZ8 l (zZ9 (i:Int)) d))))
theorem Ao(h:bM V m p e C){d:α}{l:List α}(au:l.length<=40)(oe: ∀x∈l,V x):
 ∃r,bI (LI ρ m d l) 0 (zZ9 (l.length:Int)) (cx.den .da (cX (l.length:Int)))= .inr r/\bytesOf r=jd e d l:=by
 obtain⟨r,aa,ae⟩:=zcu (R:=ρ) (b:=LI ρ m d l) (f:=λi=>e (zZ8 l i d)) l.length 0 (cx.den .da (cX (l.length:Int))) λi a _ hi=>by
  unfold LI;rw[zW8,h.eq (oe _ (nA (by omega)))]
  rfl
 exact⟨r,aa,by rw[ae,znY,bM.int.eq (jJ au)];rfl⟩
theorem C7(h:bM V m p e C)(my:C<=268435456){d:α}{l:List α}(au:l.length<=40)(oe: ∀x∈l,V x)(o3:List Int->Prop)(hK: ∀c:List Int,c.length<=10+40*C->o3 c):
 (fL (l.length:Int))/\(zZ5 ([]:List Int)+zZ5 (cx.den .da (cX (l.length:Int)):List Int)<=maxLen/\(zZ5 ([]:List Int)+zZ5 (cx.den .da (cX (l.length:Int)):List Int))*1<=140737488355328)/\
 ∃bw:Nat->(List Int)->Prop,bw 0 (cx.den .da (cX (l.length:Int)))/\(∀(i:Nat) (d0:List Int),i<zZ9 (l.length:Int)->bw i d0->(
  (p (zZ8 l (zZ9 (i:Int)) d))/\
  let v22:List Int:=cx.den .da (m (zZ8 l (zZ9 (i:Int)) d))
  (zZ5 d0+zZ5 v22<=maxLen/\(zZ5 d0+zZ5 v22)*1<=140737488355328)/\
  bw (i+1) (zYz d0 v22)))/\∀aT,bw (zZ9 (l.length:Int)) aT->o3 aT:=by
 have hQ:cX (l.length:Int)=fo l.length:=bM.int.eq (jJ au);have dD:=dx (l.length:Int);refine⟨bM.int.ok (jJ au),?_,λi c=>c.length<=10+i*C,?_,λi c hi hc=>?_,λc hc=>hK c ?_⟩
 ·rw[hQ,xV]
  simp only[zU1,maxLen];omega
 ·show zZ5 (cx.den .da (cX (l.length:Int)):List Int)<=_
  rw[hQ,xV];omega
 ·rw[zW8]at hi⊢
  have az:=oe _ (nA (d:=d) hi);have ao:=h.rp az;have aE:=h.eq az;have hm:i*C<=40*C:=zYb _ (by omega)
  refine⟨h.ok az,?_⟩;dsimp only;rw[aE,xV];refine⟨⟨by simp only[maxLen];omega,by omega⟩,?_⟩
  show(c++(cx.den .da (e (zZ8 l i d)):List Int)).length<=10+(i+1)*C;rw[zVu,xV,zYp];omega
 ·rw[zW8]at hc
  have hc:c.length<=10+l.length*C:=hc;have:l.length*C<=40*C:=zYb _ au;omega
theorem C8(h:bM V m p e C)(my:C<=268435456){d:α}{l:List α}(au:l.length<=40)(oe: ∀x∈l,V x):
 (fL (l.length:Int))/\(zZ5 ([]:List Int)+zZ5 (cx.den .da (cX (l.length:Int)):List Int)<=maxLen/\(zZ5 ([]:List Int)+zZ5 (cx.den .da (cX (l.length:Int)):List Int))*1<=140737488355328)/\
 ∃bw:Nat->(List Int)->Prop,bw 0 (cx.den .da (cX (l.length:Int)))/\(∀(i:Nat) (d0:List Int),i<zZ9 (l.length:Int)->bw i d0->(
  (p (zZ8 l (zZ9 (i:Int)) d))/\
  let v22:List Int:=cx.den .da (m (zZ8 l (zZ9 (i:Int)) d))
  (zZ5 d0+zZ5 v22<=maxLen/\(zZ5 d0+zZ5 v22)*1<=140737488355328)/\
  bw (i+1) (zYz d0 v22))):=by
 obtain⟨aa,ae,I,aw,aN,_⟩:=C7 h my (d:=d) au oe (λ_=>True) λ_ _=>trivial;exact⟨aa,ae,I,aw,aN⟩
end
end Go.aH
namespace Go.aH
open Go Go.aH Go.eT
def jx{α:Type}(V:α->Prop)(l:List α):Prop:=l.length<=40/\∀x∈l,V x
theorem vY(l:List Int):(bytesOf l).size=l.length:=zbP l
def uB(s:bf):Prop:=(dS s.dev/\dS s.gz/\dS s.version)/\(jx tj s.reported/\jx tj s.kb)/\dS s.want/\dS s.done/\dS s.mJ/\dS s.heard
def kR(s:bf):ByteArray:=fo s.dev++fo s.gz++fo s.version++jd rL (aZ .bB) s.reported++jd rL (aZ .bB) s.kb++fo s.want++fo s.done++fo s.mJ++fo s.heard
theorem Ap{l:List bB}(h:jx tj l):(jd rL (aZ .bB) l).size<=125829130:=uJ (C:=3145728) (λh=>S9 h) h.1 h.2
theorem CU{s:bf}(h:uB s):(kR s).size<=268435456:=by
 obtain⟨_,⟨aa,ae⟩,_⟩:=h;have a:=Ap aa;have b:=Ap ae;have aO:=dx s.dev;have bz:=dx s.gz;have bd:=dx s.version;have dV:=dx s.want;have eK:=dx s.done;have ij:=dx s.mJ;have gg:=dx s.heard;unfold kR;simp only[zV6];omega
theorem bM.ga:bM uB oL Bi kR 268435456:=by
 refine⟨λ{s} h=>?_,λ{s} h=>?_,λh=>CU h⟩
 ·obtain⟨⟨aa,ae,aw⟩,⟨⟨aN,pZ⟩,bx,Aq⟩,cB,eN,mG,iO⟩:=h
  unfold oL
  extract_lets v6 bg
  obtain⟨ji,cw,a2⟩:=Ao (ρ:=ByteArray) bM.item (d:=aZ .bB) aN pZ;refine(congrArg (zZ7 _ _) cw).trans ?_;rw[zV9];obtain⟨mg,e6,gl⟩:=Ao (ρ:=ByteArray) bM.item (d:=aZ .bB) bx Aq;refine(congrArg (zZ7 _ _) e6).trans ?_;rw[zV9,a2,gl,bM.int.eq aa,bM.int.eq ae,bM.int.eq aw,bM.int.eq cB,bM.int.eq eN,bM.int.eq mG,bM.int.eq iO];rfl
 ·obtain⟨⟨aa,ae,aw⟩,⟨⟨aN,pZ⟩,bx,Aq⟩,cB,eN,mG,iO⟩:=h
  have aO:=dx s.dev;have bz:=dx s.gz;have bd:=dx s.version;have dV:=dx s.want;have eK:=dx s.done;have ij:=dx s.mJ;have gg:=dx s.heard;unfold Bi;simp only[bM.int.eq aa,bM.int.eq ae,bM.int.eq aw,bM.int.eq cB,bM.int.eq eN,bM.int.eq mG,bM.int.eq iO,j5,zV6];refine⟨bM.int.ok aa,bM.int.ok ae,by omega,bM.int.ok aw,by omega,?_⟩
  refine C7 bM.item (by decide) (d:=aZ .bB) aN pZ (λaT=>_) λaT iD=>⟨by rw[vY];omega,?_⟩
  refine C7 bM.item (by decide) (d:=aZ .bB) bx Aq (λaT=>_) λaO By=>?_
  rw[vY,vY];exact⟨by omega,bM.int.ok cB,by omega,bM.int.ok eN,by omega,bM.int.ok mG,by omega,bM.int.ok iO,by omega⟩
def Ar(x:c0):Prop:=dS x.from_/\dS x.nP
def x7(x:c0):ByteArray:=fo x.from_++fo x.nP
theorem Ta(x:c0):(x7 x).size<=20:=by
 have aO:=dx x.from_;have bz:=dx x.nP;unfold x7;rw[zV6];omega
theorem bM.span:bM Ar Et IP x7 20:=by
 refine⟨λ{x} ⟨aa,ae⟩=>?_,λ{x} ⟨aa,ae⟩=>?_,λ_=>Ta _⟩
 ·unfold Et
  rw[bM.int.eq aa,bM.int.eq ae];rfl
 ·have aO:=dx x.from_
  have bz:=dx x.nP;unfold IP;simp only[bM.int.eq aa,bM.int.eq ae];exact⟨bM.int.ok aa,bM.int.ok ae,by omega⟩
def GX(x:b2):Prop:=jl x.name/\dS x.role/\jx Ar x.iy/\jx jl x.kZ
def zcy(b:Bool):ByteArray:=bif b then⟨#[1]⟩else⟨#[0]⟩
theorem znZ(b:Bool):(zcy b).size=1:=by cases b<;>rfl
def As(x:b2):ByteArray:=m2 x.name++fo x.role++jd x7 (aZ .c0) x.iy++jd m2 (aZ .str) x.kZ++zcy x.home
theorem LJ{l:List ByteArray}(h:jx jl l):(jd m2 (aZ .str) l).size<=41943450:=uJ (C:=1048586) (λh=>j9 h) h.1 h.2
theorem zn0{l:List c0}(h:jx Ar l):(jd x7 (aZ .c0) l).size<=810:=uJ (V:=Ar) (C:=20) (λ_=>Ta _) h.1 h.2
theorem Tb{x:b2}(h:GX x):(As x).size<=67108864:=by
 obtain⟨aa,ae,aw,aN⟩:=h;have a:=j9 aa;have b:=dx x.role;have c:=zn0 aw;have d:=LJ aN;have e:=znZ x.home;unfold As;simp only[zV6];omega
theorem bM.hs:bM GX Ev IQ As 67108864:=by
 refine⟨λ{s} h=>?_,λ{s} h=>?_,λh=>Tb h⟩
 ·obtain⟨aa,ae,⟨aN,pZ⟩,bx,Aq⟩:=h
  unfold Ev
  extract_lets v4 v5
  obtain⟨ji,cw,a2⟩:=Ao (ρ:=ByteArray) bM.span (d:=aZ .c0) aN pZ;refine(congrArg (zZ7 _ _) cw).trans ?_;rw[zV9];obtain⟨mg,e6,gl⟩:=Ao (ρ:=ByteArray) bM.text (d:=aZ .str) bx Aq;refine(congrArg (zZ7 _ _) e6).trans ?_;rw[zV9,a2,gl,bM.text.eq aa,bM.int.eq ae];rfl
 ·obtain⟨aa,ae,⟨aN,pZ⟩,bx,Aq⟩:=h
  have a:=j9 aa;have b:=dx s.role;have e:(Eu s.home).size=1:=by unfold Eu;cases s.home<;>rfl
  unfold IQ;simp only[bM.text.eq aa,bM.int.eq ae,j5,zV6,e];refine⟨bM.text.ok aa,bM.int.ok ae,by omega,?_⟩
  refine C7 bM.span (by decide) (d:=aZ .c0) aN pZ (λaT=>_) λaT iD=>⟨by rw[vY];omega,?_⟩
  refine C7 bM.text (by decide) (d:=aZ .str) bx Aq (λaT=>_) λaO By=>?_
  rw[vY,vY];exact⟨by omega,by omega⟩
def C9(x:de):Prop:=jl x.hs/\dS x.iU.top
theorem wrap_i64(n:Int):dS (IntKind.wrap .i64 n):=by
 rw[IntKind.wrap_i64];exact⟨by omega,by omega⟩
def wi(x:de):ByteArray:=m2 x.hs++fo x.iU.top++fo (IntKind.wrap .i64 x.iU.bits)
theorem Tc{x:de}(h:C9 x):(wi x).size<=2097152:=by
 have a:=j9 h.1;have b:=dx x.iU.top;have c:=dx (IntKind.wrap .i64 x.iU.bits);unfold wi;simp only[zV6];omega
theorem bM.s8:bM C9 Ew IS wi 2097152:=by
 refine⟨λ{x} ⟨aa,ae⟩=>?_,λ{x} ⟨aa,ae⟩=>?_,λh=>Tc h⟩
 ·unfold Ew
  rw[bM.text.eq aa,bM.int.eq ae,bM.int.eq (wrap_i64 _)];rfl
 ·have a:=j9 aa
  have b:=dx x.iU.top;have c:=dx (IntKind.wrap .i64 x.iU.bits);unfold IS;simp only[bM.text.eq aa,bM.int.eq ae,bM.int.eq (wrap_i64 _),j5,zV6];exact⟨bM.text.ok aa,bM.int.ok ae,by omega,bM.int.ok (wrap_i64 _),by omega⟩
def Da(x:cG):Prop:=jl x.name/\jx tj x.items
def wj(x:cG):ByteArray:=m2 x.name++jd rL (aZ .bB) x.items
theorem Td{x:cG}(h:Da x):(wj x).size<=134217728:=by
 have a:=j9 h.1;have b:=Ap h.2;unfold wj;simp only[zV6];omega
theorem bM.s9:bM Da Ex IT wj 134217728:=by
 refine⟨λ{x} ⟨aa,ae,q7⟩=>?_,λ{x} ⟨aa,ae,q7⟩=>?_,λh=>Td h⟩
 ·unfold Ex
  extract_lets v2 v3
  obtain⟨ji,cw,a2⟩:=Ao (ρ:=ByteArray) bM.item (d:=aZ .bB) ae q7;refine(congrArg (zZ7 _ _) cw).trans ?_;rw[zV9,a2,bM.text.eq aa];rfl
 ·have a:=j9 aa
  unfold IT;simp only[bM.text.eq aa];refine⟨bM.text.ok aa,?_⟩;exact C7 bM.item (by decide) (d:=aZ .bB) ae q7 (λaT=>_) λaT iD=>by rw[vY];omega
theorem bM.ints:bM (jx dS) IU IV (jd fo (aZ .i64)) 410:=by
 refine⟨λ{l} ⟨ae,q7⟩=>?_,λ{l} ⟨ae,q7⟩=>?_,λ{l} h=>uJ (V:=dS) (C:=10) (λ_=>dx _) h.1 h.2⟩
 ·unfold IU
  extract_lets v2 v3
  obtain⟨ji,cw,a2⟩:=Ao (ρ:=ByteArray) bM.int (d:=aZ .i64) ae q7;refine(congrArg (zZ7 _ _) cw).trans ?_;rw[zV9,a2]
 ·unfold IV
  exact C8 bM.int (by decide) (d:=aZ .i64) ae q7
end Go.aH
namespace Go.aH
open Go Go.aH Go.eT
section
variable {α ρ:Type} {V:α->Prop} {e:α->ByteArray} {C:Nat}
theorem At{b:Nat->ByteArray->Step ρ ByteArray}{d:α}{l:List α}(oe: ∀x∈l,V x)(af: ∀(i:Nat) (a:ByteArray),i<l.length->V (zZ8 l i d)->b i a= .bJ (a++e (zZ8 l i d)))(a0:ByteArray):
 bI b 0 (zZ9 (l.length:Int)) a0= .inr (a0++An (λi=>e (zZ8 l i d)) 0 l.length):=by
 rw[zW8];exact zcv l.length 0 a0 λi a _ hi=>af i a (by omega) (oe _ (nA (by omega)))
theorem Au{d:α}{l:List α}(au:l.length<=40)(oe: ∀x∈l,V x){A i:Nat}{a:ByteArray}(hi:i<zZ9 (l.length:Int))(ba:a.size<=A+i*C):V (zZ8 l i d)/\a.size<=A+40*C/\∀x:ByteArray,x.size<=C->(a++x).size<=A+(i+1)*C:=by
 rw[zW8]at hi;have hm:i*C<=40*C:=zYb _ (by omega)
 refine⟨oe _ (nA (d:=d) hi),by omega,λx hx=>?_⟩
 rw[zV6,zYp];omega
theorem stx{l:List α}(au:l.length<=40){A:Nat}{a:ByteArray}(ba:a.size<=A+zZ9 (l.length:Int)*C):a.size<=A+40*C:=by
 rw[zW8]at ba;have:l.length*C<=40*C:=zYb _ au;omega
end
theorem bP.items:bM (jx tj) ve Bj (jd rL (aZ .bB)) 125829130:=by
 refine⟨λ{l} ⟨aa,ae⟩=>?_,λ{l} ⟨aa,ae⟩=>?_,λh=>Ap h⟩
 ·unfold ve
  extract_lets v1
  refine(congrArg (zZ7 _ _) (At (V:=tj) (e:=rL) (d:=aZ .bB) ae (λi a hi az=>?_) (dm (l.length:Int)))).trans ?_
  ·obtain⟨g1,g2,g3,g4,g5⟩:=az
   have ev:y7 ⟨(zZ8 l i (aZ .bB)).value.kind,(zZ8 l i (aZ .bB)).value.n,(zZ8 l i (aZ .bB)).value.s⟩=ti (zZ8 l i (aZ .bB)).value:=bP.val.eq g4;simp only[zW8,bP.int.eq g1,bP.text.eq g2,bP.text.eq g3,ev,bP.int.eq g5,j5,rL,zUz]
  ·rw[zV9,bP.int.eq (jJ aa)]
   rfl
 ·have dD:=dx (l.length:Int)
  unfold Bj;refine⟨bP.int.ok (jJ aa),?_⟩;refine⟨λi a=>a.size<=10+i*3145728,by rw[bP.int.eq (jJ aa)];omega,λi a hi ba=>?_⟩
  obtain⟨az,ba,dt⟩:=Au (V:=tj) (d:=aZ .bB) aa ae hi ba;have dt:=dt _ (S9 az);obtain⟨g1,g2,g3,g4,g5⟩:=az;have cw:=dx (zZ8 l i (aZ .bB)).key.dev;have a2:=j9 g2;have a3:=j9 g3;have a4:=GV (zZ8 l i (aZ .bB)).value;have a5:=dx (zZ8 l i (aZ .bB)).version;have ev:y7 ⟨(zZ8 l i (aZ .bB)).value.kind,(zZ8 l i (aZ .bB)).value.n,(zZ8 l i (aZ .bB)).value.s⟩=ti (zZ8 l i (aZ .bB)).value:=bP.val.eq g4;simp only[zW8,bP.int.eq g1,bP.text.eq g2,bP.text.eq g3,ev,bP.int.eq g5,j5,zV6];refine⟨bP.int.ok g1,by omega,bP.text.ok g2,by omega,bP.text.ok g3,by omega,bP.val.ok (x:=(zZ8 l i (aZ .bB)).value) g4,by omega,bP.int.ok g5,by omega,?_⟩
  simp only[rL,zV6]at dt⊢;omega
theorem bP.ga:bM uB nY y8 kR 268435456:=by
 refine⟨λ{s} h=>?_,λ{s} h=>?_,λh=>CU h⟩
 ·obtain⟨⟨aa,ae,aw⟩,⟨aN,bx⟩,cB,eN,mG,iO⟩:=h
  unfold nY;rw[bP.int.eq aa,bP.int.eq ae,bP.int.eq aw,bP.items.eq aN,bP.items.eq bx,bP.int.eq cB,bP.int.eq eN,bP.int.eq mG,bP.int.eq iO];rfl
 ·obtain⟨⟨aa,ae,aw⟩,⟨aN,bx⟩,cB,eN,mG,iO⟩:=h
  have aO:=dx s.dev;have bz:=dx s.gz;have bd:=dx s.version;have dV:=dx s.want;have eK:=dx s.done;have ij:=dx s.mJ;have gg:=dx s.heard;have d1:=Ap aN;have d2:=Ap bx;unfold y8;simp only[bP.int.eq aa,bP.int.eq ae,bP.int.eq aw,bP.items.eq aN,bP.items.eq bx,bP.int.eq cB,bP.int.eq eN,bP.int.eq mG,bP.int.eq iO,j5,zV6];exact⟨bP.int.ok aa,bP.int.ok ae,by omega,bP.int.ok aw,by omega,bP.items.ok aN,by omega,bP.items.ok bx,by omega,bP.int.ok cB,by omega,bP.int.ok eN,by omega,bP.int.ok mG,by omega,bP.int.ok iO,by omega⟩
theorem bP.texts:bM (jx jl) Bk Ez (jd m2 (aZ .str)) 41943450:=by
 refine⟨λ{l} ⟨aa,ae⟩=>?_,λ{l} ⟨aa,ae⟩=>?_,λh=>LJ h⟩
 ·unfold Bk
  extract_lets v1
  refine(congrArg (zZ7 _ _) (At (V:=jl) (e:=m2) (d:=aZ .str) ae (λi a hi az=>?_) (dm (l.length:Int)))).trans ?_
  ·simp only[zW8]
   exact congrArg (λx=>Step.bJ (a++x)) (bP.text.eq az)
  ·rw[zV9,bP.int.eq (jJ aa)]
   rfl
 ·have dD:=dx (l.length:Int)
  unfold Ez;refine⟨bP.int.ok (jJ aa),?_⟩;refine⟨λi a=>a.size<=10+i*1048586,by rw[bP.int.eq (jJ aa)];omega,λi a hi ba=>?_⟩
  obtain⟨az,ba,dt⟩:=Au (V:=jl) (d:=aZ .str) aa ae hi ba;have dt:=dt _ (j9 az);have a2:=j9 az;refine⟨bP.text.ok az,?_,?_⟩
  ·show a.size+(ke (zZ8 l i (aZ .str))).size<=_
   rw[bP.text.eq az];omega
  ·show(a++ke (zZ8 l i (aZ .str))).size<=_
   rw[bP.text.eq az];exact dt
theorem bP.ints:bM (jx dS) IY IZ (jd fo (aZ .i64)) 410:=by
 refine⟨λ{l} ⟨aa,ae⟩=>?_,λ{l} ⟨aa,ae⟩=>?_,λ{l} h=>uJ (V:=dS) (C:=10) (λ_=>dx _) h.1 h.2⟩
 ·unfold IY
  extract_lets v1
  refine(congrArg (zZ7 _ _) (At (V:=dS) (e:=fo) (d:=aZ .i64) ae (λi a hi az=>?_) (dm (l.length:Int)))).trans ?_
  ·simp only[zW8]
   exact congrArg (λx=>Step.bJ (a++x)) (bP.int.eq az)
  ·rw[zV9,bP.int.eq (jJ aa)]
   rfl
 ·have dD:=dx (l.length:Int)
  unfold IZ;refine⟨bP.int.ok (jJ aa),?_⟩;refine⟨λi a=>a.size<=10+i*10,by rw[bP.int.eq (jJ aa)];omega,λi a hi ba=>?_⟩
  obtain⟨az,ba,dt⟩:=Au (V:=dS) (d:=aZ .i64) aa ae hi ba;have dt:=dt _ (dx (zZ8 l i (aZ .i64)));have a2:=dx (zZ8 l i (aZ .i64));refine⟨bP.int.ok az,?_,?_⟩
  ·show a.size+(dm (zZ8 l i (aZ .i64))).size<=_
   rw[bP.int.eq az];omega
  ·show(a++dm (zZ8 l i (aZ .i64))).size<=_
   rw[bP.int.eq az];exact dt
theorem bP.hs:bM GX EB IX As 67108864:=by
 refine⟨λ{s} h=>?_,λ{s} h=>?_,λh=>Tb h⟩
 ·obtain⟨aa,ae,⟨aN,pZ⟩,bx⟩:=h
  unfold EB
  extract_lets v1
  refine(congrArg (zZ7 _ _) (At (V:=Ar) (e:=x7) (d:=aZ .c0) pZ (λi a hi az=>?_) _)).trans ?_
  ·obtain⟨g1,g2⟩:=az
   simp only[zW8,bP.int.eq g1,bP.int.eq g2,j5,x7,zUz]
  ·rw[zV9,bP.text.eq aa,bP.int.eq ae,bP.texts.eq bx,bP.int.eq (jJ aN)]
   simp only[j5,As,jd,zUz];rfl
 ·obtain⟨aa,ae,⟨aN,pZ⟩,bx⟩:=h
  have a:=j9 aa;have b:=dx s.role;have c:=dx (s.iy.length:Int);have d:=LJ bx;have e:(EA s.home).size=1:=by unfold EA;cases s.home<;>rfl
  unfold IX;simp only[bP.text.eq aa,bP.int.eq ae,bP.texts.eq bx,bP.int.eq (jJ aN),j5,zV6,e];refine⟨bP.text.ok aa,bP.int.ok ae,by omega,bP.int.ok (jJ aN),by omega,?_⟩
  refine⟨λi a=>a.size<=1048606+i*20,by simp only[zV6];omega,λi a hi ba=>?_,λc hc=>?_⟩
  ·obtain⟨az,ba,dt⟩:=Au (V:=Ar) (d:=aZ .c0) aN pZ hi ba
   have dt:=dt _ (Ta (zZ8 s.iy i (aZ .c0)));have cw:=dx (zZ8 s.iy i (aZ .c0)).from_;have a2:=dx (zZ8 s.iy i (aZ .c0)).nP;obtain⟨g1,g2⟩:=az;simp only[zW8,bP.int.eq g1,bP.int.eq g2];refine⟨bP.int.ok g1,by omega,bP.int.ok g2,by omega,?_⟩
   simp only[x7,zUz]at dt⊢;exact dt
  ·have hc:=stx aN hc
   exact⟨bP.texts.ok bx,by omega,by omega⟩
end Go.aH
namespace Go.aH
open Go Go.aH Go.eT
def oZ(x:aY):Prop:=(dS x.gz/\jl x.mode/\jl x.source/\dS x.next)/\jx uB x.bm/\jx jl x.ic/\jx GX x.members/\jx C9 x.eW/\jx Da x.eh/\jx dS x.iH
def kn(x:aY):Nat->ByteArray
 |0=>fo x.gz|1=>m2 x.mode|2=>jd kR (aZ .bf) x.bm|3=>jd m2 (aZ .str) x.ic|4=>jd As (aZ .b2) x.members|5=>jd wi (aZ .de) x.eW|6=>m2 x.source|7=>jd wj (aZ .cG) x.eh|8=>fo x.next
 |_=>jd fo (aZ .i64) x.iH
theorem zbb{x:aY}(h:oZ x)(i:Nat):(kn x i).size<=10737418250:=by
 obtain⟨⟨aa,ae,aw,aN⟩,⟨s1,zn1⟩,cB,⟨s2,zn2⟩,⟨jc,zn3⟩,⟨jI,zn4⟩,jv,zn5⟩:=h;unfold kn
 split
 ·have:=dx x.gz;omega
 ·have:=j9 ae;omega
 ·exact uJ (C:=268435456) (λh=>CU h) s1 zn1
 ·have:=LJ cB;omega
 ·have:=uJ (e:=As) (C:=67108864) (λh=>Tb h) (d:=aZ .b2) s2 zn2;omega
 ·have:=uJ (e:=wi) (C:=2097152) (λh=>Tc h) (d:=aZ .de) jc zn3;omega
 ·have:=j9 aw;omega
 ·have:=uJ (e:=wj) (C:=134217728) (λh=>Td h) (d:=aZ .cG) jI zn4;omega
 ·have:=dx x.next;omega
 ·have:=uJ (V:=dS) (e:=fo) (C:=10) (λ_=>dx _) (d:=aZ .i64) jv zn5;omega
section
variable {α ρ:Type} {V:α->Prop} {m:α->ByteArray} {p:α->Prop} {e:α->ByteArray} {C:Nat}
theorem GY(h:bM V m p e C){d:α}{l:List α}(au:jx V l):zZ7 (λr=>r) (λaT=>bytesOf aT) (bI (LI ByteArray m d l) 0 (zZ9 (l.length:Int)) (cx.den .da (cX (l.length:Int))))=jd e d l:=by
 obtain⟨r,aa,ae⟩:=Ao (ρ:=ByteArray) h (d:=d) au.1 au.2;rw[aa,zV9,ae]
theorem zcz(h:bM V m p e C)(my:C<=268435456){d:α}{l:List α}(au:jx V l):(fX (l.length:Int))/\
 ∃bw:Nat->(ByteArray)->Prop,bw 0 (dm (l.length:Int))/\∀(i:Nat) (d0:ByteArray),i<zZ9 (l.length:Int)->bw i d0->(
  let v11:=m (zZ8 l (zZ9 (i:Int)) d)
  (p (zZ8 l (zZ9 (i:Int)) d))/\
  (zZ6 d0+zZ6 v11<=9223372036854775807)/\
  bw (i+1) (zYx d0 v11)):=by
 obtain⟨aa,ae⟩:=au;have dD:=dx (l.length:Int);refine⟨bP.int.ok (jJ aa),λi a=>a.size<=10+i*C,by rw[bP.int.eq (jJ aa)];omega,λi a hi ba=>?_⟩
 obtain⟨az,ba,dt⟩:=Au (V:=V) (d:=d) aa ae hi ba;have ao:=h.rp az;have aE:m (zZ8 l (zZ9 (i:Int)) d)=e (zZ8 l i d):=h.eq az;dsimp only;rw[aE];exact⟨h.ok az,by omega,dt _ ao⟩
theorem zcA(h:bM V m p e C){d:α}{l:List α}(au:jx V l):zZ7 (λr=>r) (λaT=>aT) (bI (λ(i:Nat) (aO:ByteArray)=>(Step.bJ (zYx aO (m (zZ8 l (zZ9 (i:Int)) d))):Step ByteArray ByteArray)) 0 (zZ9 (l.length:Int)) (dm (l.length:Int)))=jd e d l:=by
 rw[At (V:=V) (e:=e) (d:=d) au.2 (λi a hi az=>by rw[zW8,h.eq az];rfl),zV9,bP.int.eq (jJ au.1)]
 rfl
end
theorem Sf{x:aY}(h:oZ x): ∀(i:Nat),i<10->vd x (i:Int)=kn x i:=λi hi=>by
 obtain⟨⟨aa,ae,aw,aN⟩,s1,s2,jc,jI,jv,kO⟩:=h
 match i,hi with
 |0,_=>exact bM.int.eq aa|1,_=>exact bM.text.eq ae|2,_=>exact GY bM.ga s1|3,_=>exact GY bM.text s2|4,_=>exact GY bM.hs jc|5,_=>exact GY bM.s8 jI|6,_=>exact bM.text.eq aw|7,_=>exact GY bM.s9 jv|8,_=>exact bM.int.eq aN|9,_=>exact bM.ints.eq kO
theorem zbc{x:aY}(h:oZ x)(i:Int):Ey x i:=by
 obtain⟨⟨aa,ae,aw,aN⟩,s1,s2,jc,jI,jv,kO⟩:=h;unfold Ey;exact⟨λ_=>bM.int.ok aa,λ_=>⟨λ_=>bM.text.ok ae,λ_=>⟨λ_=>C8 bM.ga (by decide) s1.1 s1.2,λ_=>⟨λ_=>C8 bM.text (by decide) s2.1 s2.2,λ_=>⟨λ_=>C8 bM.hs (by decide) jc.1 jc.2,λ_=>⟨λ_=>C8 bM.s8 (by decide) jI.1 jI.2,λ_=>⟨λ_=>bM.text.ok aw,λ_=>⟨λ_=>C8 bM.s9 (by decide) jv.1 jv.2,λ_=>⟨λ_=>bM.int.ok aN,λ_=>bM.ints.ok kO⟩⟩⟩⟩⟩⟩⟩⟩⟩
theorem Sg{x:aY}(h:oZ x): ∀(i:Nat),i<10->w6 x (i:Int)=kn x i:=λi hi=>by
 obtain⟨⟨aa,ae,aw,aN⟩,s1,s2,jc,jI,jv,kO⟩:=h
 match i,hi with
 |0,_=>exact bP.int.eq aa|1,_=>exact bP.text.eq ae|2,_=>exact zcA bP.ga s1|3,_=>exact bP.texts.eq s2|4,_=>exact zcA bP.hs jc|5,_=>
  show zZ7 (λr=>r) (λaT=>aT) (bI _ 0 (zZ9 (x.eW.length:Int)) (dm (x.eW.length:Int)))=jd wi (aZ .de) x.eW;rw[At (V:=C9) (e:=wi) (d:=aZ .de) jI.2 (λi a hi az=>?_),zV9,bP.int.eq (jJ jI.1)]
  ·rfl
  ·simp only[zW8,bP.text.eq az.1,bP.int.eq az.2,bP.int.eq (wrap_i64 _),j5,wi,zUz]
 |6,_=>exact bP.text.eq aw|7,_=>
  show zZ7 (λr=>r) (λaT=>aT) (bI _ 0 (zZ9 (x.eh.length:Int)) (dm (x.eh.length:Int)))=jd wj (aZ .cG) x.eh;rw[At (V:=Da) (e:=wj) (d:=aZ .cG) jv.2 (λi a hi az=>?_),zV9,bP.int.eq (jJ jv.1)]
  ·rfl
  ·simp only[zW8,bP.text.eq az.1,bP.items.eq az.2,j5,wj,zUz]
 |8,_=>exact bP.int.eq aN|9,_=>exact bP.ints.eq kO
theorem Sh{x:aY}(h:oZ x)(i:Int):y9 x i:=by
 obtain⟨⟨aa,ae,aw,aN⟩,s1,s2,jc,jI,jv,kO⟩:=h;unfold y9;refine⟨λ_=>bP.int.ok aa,λ_=>⟨λ_=>bP.text.ok ae,λ_=>⟨λ_=>zcz bP.ga (by decide) s1,λ_=>⟨λ_=>bP.texts.ok s2,λ_=>⟨λ_=>zcz bP.hs (by decide) jc,λ_=>⟨λ_=>?_,λ_=>⟨λ_=>bP.text.ok aw,λ_=>⟨λ_=>?_,λ_=>⟨λ_=>bP.int.ok aN,λ_ _=>bP.ints.ok kO⟩⟩⟩⟩⟩⟩⟩⟩⟩
 ·obtain⟨g1,g2⟩:=jI
  have dD:=dx (x.eW.length:Int);refine⟨bP.int.ok (jJ g1),λi a=>a.size<=10+i*2097152,by rw[bP.int.eq (jJ g1)];omega,λi a hi ba=>?_⟩
  obtain⟨az,ba,dt⟩:=Au (V:=C9) (d:=aZ .de) g1 g2 hi ba;have dt:=dt _ (Tc az);have cw:=j9 az.1;have a2:=dx (zZ8 x.eW i (aZ .de)).iU.top;have a3:=dx (IntKind.wrap .i64 (zZ8 x.eW i (aZ .de)).iU.bits);simp only[zW8,bP.text.eq az.1,bP.int.eq az.2,bP.int.eq (wrap_i64 _),j5,zV6];refine⟨bP.text.ok az.1,by omega,bP.int.ok az.2,by omega,bP.int.ok (wrap_i64 _),by omega,?_⟩
  simp only[wi,zV6]at dt;omega
 ·obtain⟨g1,g2⟩:=jv
  have dD:=dx (x.eh.length:Int);refine⟨bP.int.ok (jJ g1),λi a=>a.size<=10+i*134217728,by rw[bP.int.eq (jJ g1)];omega,λi a hi ba=>?_⟩
  obtain⟨az,ba,dt⟩:=Au (V:=Da) (d:=aZ .cG) g1 g2 hi ba;have dt:=dt _ (Td az);have cw:=j9 az.1;have a2:=Ap az.2;simp only[zW8,bP.text.eq az.1,bP.items.eq az.2,j5,zV6];refine⟨bP.text.ok az.1,by omega,bP.items.ok az.2,by omega,?_⟩
  simp only[wj,zV6]at dt;omega
end Go.aH
namespace Go.aH
open Go Go.aH Go.eT
def pS(r:Rd):Bool × Rd:=
 bif cl r != 0 then(false,r)else match r.rest.data.toList with
 |[]=>(false,⟨r.rest,5,r.made⟩)|c::_=>bif decide (1<c.toNat)then(false,⟨r.rest,4,r.made⟩)else(decide (c.toNat=1),⟨r.rest.extract 1 r.rest.size,r.err,r.made⟩)
def wk(q:bF):Bool × bF:=
 bif bQ q != 0 then(false,q)else match q.s.data.toList[q.at_.toNat]? with
 |none=>(false,⟨q.s,q.at_,5,q.made⟩)|some c=>bif decide (1<c.toNat)then(false,⟨q.s,q.at_,4,q.made⟩)else(decide (c.toNat=1),⟨q.s,q.at_+1,q.bad,q.made⟩)
theorem zn6:Ak pS wk:=λr q h=>by
 have he:=j6 h;obtain⟨av,ah⟩:=h;have l6:=av;obtain⟨aa,ae,aw⟩:=av;unfold pS wk;rw[he]
 cases af:bQ q != 0 with
 |true=>exact⟨rfl,l6,ah⟩|false=>
  simp only[cond_false];have au:r.rest.data.toList=q.s.data.toList.drop q.at_.toNat:=by rw[ah];exact Aj _ _
  cases hd:q.s.data.toList.drop q.at_.toNat with
  |nil=>
   rw[au,hd]
   have hn:q.s.data.toList[q.at_.toNat]? =none:=by
    have:=congrArg (·[0]?) hd;simpa using this
   rw[hn];simp only;refine⟨by first|trivial|rfl,⟨aa,ae,aw⟩,?_⟩
   rw[ah]
  |cons c t=>
   rw[au,hd]
   have hn:q.s.data.toList[q.at_.toNat]? =some c:=by
    have:=congrArg (·[0]?) hd;simpa using this
   rw[hn];simp only
   cases decide (1<c.toNat)with
   |true=>
    simp only[cond_true];refine⟨by first|trivial|rfl,⟨aa,ae,aw⟩,?_⟩
    rw[ah]
   |false=>
    simp only[cond_false]
    have bR:q.at_.toNat<q.s.size:=by
     have:=(zZ1.1 hn).1;simpa using this
    refine⟨by first|trivial|rfl,⟨by show(0:Int)<=q.at_+1;omega,by show q.at_+1<=(q.s.size:Int);omega,aw⟩,?_⟩
    rw[ah];simp only[SX];rw[show(q.at_+1).toNat=q.at_.toNat+1 from by omega]
theorem iu.qH:iu pS:=λr h=>by
 have:(cl r != 0)=true:=by simpa using h
 simp only[pS,this,cond_true]
theorem jR.qH:jR wk:=λq h=>by
 have:(bQ q != 0)=true:=by simpa using h
 simp only[wk,this,cond_true]
theorem zn7{q:bF}(h:bQ q≠0):(td q).2=q:=by
 have aP:(bQ q==0)=false:=by simpa using h
 unfold td uH qG x5 pQ uG;rw[C6 h];simp[aP]
theorem zn8:iu oA:=λr h=>by rw[znu h]
end Go.aH
namespace Go.aH
open Go Go.aH Go.eT
structure dT {α:Type} (R:Rd->α × Rd) (S:bF->α × bF):Prop where
 Gy:o2 R S
 z7:iu R
 CV:jR S
section
variable {α β:Type}
theorem dT.bu{rK:Rd->α × Rd}{aM:bF->α × bF}{th:α->Rd->β × Rd}{dC:α->bF->β × bF}(aa:dT rK aM)(ae: ∀a,dT (th a) (dC a)):dT (bu rK th) (bu aM dC):=
 ⟨aa.Gy.bu (λa=>(ae a).Gy) (λa=>(ae a).z7) λa=>(ae a).CV,aa.z7.bu λa=>(ae a).z7,aa.CV.bu λa=>(ae a).CV⟩
theorem dT.cD(a:α):dT (cD a) (cD a):=⟨o2.cD a,iu.cD a,jR.cD a⟩
theorem dT.int:dT bk bL:=⟨Aa.w,iu.int,jR.int⟩
theorem dT.text(n:Int):dT (λr=>kq r n) (λq=>lp q n):=⟨(zb4 n).w,iu.text n,jR.text n⟩
theorem dT.qH:dT pS wk:=⟨zn6.w,iu.qH,jR.qH⟩
theorem dT.take:dT oA td:=⟨znD.w,zn8,λq h=>by rw[zn7 h]⟩
theorem dT.list{R:Rd->α × Rd}{S:bF->α × bF}(h:dT R S)(m:Int):dT (lV m R) (mC m S):=⟨znT h.Gy h.z7 m,znR h.z7 m,znS m⟩
end
theorem zn9{r:Rd}(h:cl r≠0):pP r=0:=by
 have:(cl r != 0)=true:=by simpa using h
 simp[pP,this]
theorem dT.ints(m:Int):dT (wh c5 m) (x2 m):=by
 refine⟨λr q ah=>?_,λr h=>?_,λq h=>?_⟩
 ·have ao:r.rest.size<c5:=by
   obtain⟨⟨aa,ae,aw⟩,aN⟩:=ah;rw[aN];show(q.s.extract q.at_.toNat q.s.size).size<_;rw[zUb];unfold c5;omega
  obtain⟨g1,g2⟩:=znW (F:=c5) m r q ah ao;exact⟨g2,λ_=>g1⟩
 ·unfold wh
  rw[SV m h,zn9 h]
  have cB:(cl (je (zZ9 0) [] r).2 != 0)=true:=by
   show(cl r != 0)=true;simpa using h
  simp only[Int.lt_irrefl,gt_iff_lt,decide_false,cond_false,cB,cond_true];rfl
 ·unfold x2
  rw[SY m h];exact znV h _ _
def Te:Rd->bB × Rd:=bu bk λd=>bu (λr=>kq r 60) λc=>bu (λr=>kq r 60) λa=>bu oA λv=>bu bk λn=>cD ⟨⟨d,c,a⟩,v,n⟩
def LK:bF->bB × bF:=bu bL λd=>bu (λr=>lp r 60) λc=>bu (λr=>lp r 60) λa=>bu td λv=>bu bL λn=>cD ⟨⟨d,c,a⟩,v,n⟩
theorem dT.item:dT Te LK:=.bu .int λ_=>.bu (.text 60) λ_=>.bu (.text 60) λ_=>.bu .take λ_=>.bu .int λ_=>.cD _
def LL:Rd->c0 × Rd:=bu bk λa=>bu bk λb=>cD ⟨a,b⟩
def Db:bF->c0 × bF:=bu bL λa=>bu bL λb=>cD ⟨a,b⟩
theorem dT.span:dT LL Db:=.bu .int λ_=>.bu .int λ_=>.cD _
end Go.aH
namespace Go.aH
open Go Go.aH Go.eT
def jT:Rd->ByteArray × Rd:=λr=>kq r 60
def kt:bF->ByteArray × bF:=λq=>lp q 60
theorem dT.word:dT jT kt:=.text 60
def x8:Rd->List bB × Rd:=lV 256 Te
def GZ:bF->List bB × bF:=mC 256 LK
theorem dT.items:dT x8 GZ:=dT.item.list 256
def Dc:Rd->List ByteArray × Rd:=lV 256 jT
def Af:bF->List ByteArray × bF:=mC 256 kt
theorem dT.texts:dT Dc Af:=dT.word.list 256
def m0:Rd->bf × Rd:=bu bk λd=>bu bk λe=>bu bk λv=>bu x8 λp=>bu x8 λq=>bu bk λw=>bu bk λk=>bu bk λs=>bu bk λh=>cD ⟨d,e,v,p,q,w,k,s,h⟩
def nC:bF->bf × bF:=bu bL λd=>bu bL λe=>bu bL λv=>bu GZ λp=>bu GZ λq=>bu bL λw=>bu bL λk=>bu bL λs=>bu bL λh=>cD ⟨d,e,v,p,q,w,k,s,h⟩
theorem dT.ga:dT m0 nC:=.bu .int λ_=>.bu .int λ_=>.bu .int λ_=>.bu .items λ_=>.bu .items λ_=>.bu .int λ_=>.bu .int λ_=>.bu .int λ_=>.bu .int λ_=>.cD _
def LM:Rd->b2 × Rd:=bu jT λn=>bu bk λk=>bu (lV 256 LL) λs=>bu Dc λl=>bu pS λh=>cD ⟨n,k,s,l,h⟩
def LB:bF->b2 × bF:=bu kt λn=>bu bL λk=>bu (mC 256 Db) λs=>bu Af λl=>bu wk λh=>cD ⟨n,k,s,l,h⟩
theorem dT.hs:dT LM LB:=.bu .word λ_=>.bu .int λ_=>.bu (dT.span.list 256) λ_=>.bu .texts λ_=>.bu .qH λ_=>.cD _
def Tf(c:Int->Int):Rd->de × Rd:=bu jT λn=>bu bk λt=>bu bk λb=>cD ⟨n,⟨t,c b⟩⟩
def GI(c:Int->Int):bF->de × bF:=bu kt λn=>bu bL λt=>bu bL λb=>cD ⟨n,⟨t,c b⟩⟩
theorem dT.s8(c:Int->Int):dT (Tf c) (GI c):=.bu .word λ_=>.bu .int λ_=>.bu .int λ_=>.cD _
def Tg:Rd->cG × Rd:=bu jT λn=>bu x8 λl=>cD ⟨n,l⟩
def GJ:bF->cG × bF:=bu kt λn=>bu GZ λl=>cD ⟨n,l⟩
theorem dT.s9:dT Tg GJ:=.bu .word λ_=>.bu .items λ_=>.cD _
def oh(c:Int->Int)(i:Nat)(s:aY):Rd->aY × Rd:=
 match i with
 |0=>bu bk λx=>cD {s with gz:=x}
 |1=>bu jT λx=>cD {s with mode:=x}
 |2=>bu (lV 256 m0) λx=>cD {s with bm:=x}
 |3=>bu Dc λx=>cD {s with ic:=x}
 |4=>bu (lV 256 LM) λx=>cD {s with members:=x}
 |5=>bu (lV 256 (Tf c)) λx=>cD {s with eW:=x}
 |6=>bu (λr=>kq r 20000) λx=>cD {s with source:=x}
 |7=>bu (lV 256 Tg) λx=>cD {s with eh:=x}
 |8=>bu bk λx=>cD {s with next:=x}
 |_=>bu (wh c5 256) λx=>cD {s with iH:=x}
def s3(c:Int->Int)(i:Nat)(s:aY):bF->aY × bF:=
 match i with
 |0=>bu bL λx=>cD {s with gz:=x}
 |1=>bu kt λx=>cD {s with mode:=x}
 |2=>bu (mC 256 nC) λx=>cD {s with bm:=x}
 |3=>bu Af λx=>cD {s with ic:=x}
 |4=>bu (mC 256 LB) λx=>cD {s with members:=x}
 |5=>bu (mC 256 (GI c)) λx=>cD {s with eW:=x}
 |6=>bu (λr=>lp r 20000) λx=>cD {s with source:=x}
 |7=>bu (mC 256 GJ) λx=>cD {s with eh:=x}
 |8=>bu bL λx=>cD {s with next:=x}
 |_=>bu (x2 256) λx=>cD {s with iH:=x}
theorem dT.get(c:Int->Int)(i:Nat)(s:aY):dT (oh c i s) (s3 c i s):=by
 unfold oh s3
 split
 ·exact .bu .int λ_=>.cD _
 ·exact .bu .word λ_=>.cD _
 ·exact .bu (dT.ga.list 256) λ_=>.cD _
 ·exact .bu .texts λ_=>.cD _
 ·exact .bu (dT.hs.list 256) λ_=>.cD _
 ·exact .bu ((dT.s8 c).list 256) λ_=>.cD _
 ·exact .bu (.text 20000) λ_=>.cD _
 ·exact .bu (dT.s9.list 256) λ_=>.cD _
 ·exact .bu .int λ_=>.cD _
 ·exact .bu (.ints 256) λ_=>.cD _
def r3(c:Int->Int)(p:Nat->Bool):Nat->Nat->aY->Rd->aY × Rd
 |0,_,s=>cD s|n+1,i,s=>bu (bif p i then oh c i s else cD s) (r3 c p n (i+1))
def z8(c:Int->Int)(p:Nat->Bool):Nat->Nat->aY->bF->aY × bF
 |0,_,s=>cD s|n+1,i,s=>bu (bif p i then s3 c i s else cD s) (z8 c p n (i+1))
theorem dT.Sj(c:Int->Int)(p:Nat->Bool): ∀(n i:Nat) (s:aY),dT (r3 c p n i s) (z8 c p n i s)
 |0,_,_=>.cD _|n+1,i,s=>by
  refine .bu ?_ λt=>dT.Sj c p n (i+1) t
  cases p i with
  |true=>exact dT.get c i s|false=>exact .cD _
end Go.aH
namespace Go.aH
open Go Go.aH Go.eT
structure dU {α:Type} (S:bF->α × bF) (m:bh->bh × α) (p:bh->Prop):Prop where
 eq: ∀{q:bh},cj q->m q=((S q).2,(S q).1)
 ok: ∀{q:bh},cj q->p q
 eR: ∀{q:bh},cj q->cj (S q).2
abbrev rM(α:Type):=Int × (List α) × ByteArray × Int × Int × Bool
section
variable {α ρ:Type} {S:bF->α × bF} {f:bh->α × bh}
noncomputable def Ae(n:Int)(f:bh->α × bh)(aO:rM α):Step ρ (rM α):=
 let v10:=decide (aO.1<n)
 let aQ:Int->ByteArray->Int->Int->Bool->Step ρ (rM α):=λv11 v12 bY cg ch=>
  bif(v10&&(v11==0))then
   .bJ ((IntKind.wrap .i64 (aO.1+(1:Int))),(zYz aO.2.1 ([(f ⟨v12,bY,cg,ch⟩).1]:List α)),(f ⟨v12,bY,cg,ch⟩).2.s,(f ⟨v12,bY,cg,ch⟩).2.at_,(f ⟨v12,bY,cg,ch⟩).2.bad,(f ⟨v12,bY,cg,ch⟩).2.made)
  else
   .c4 (aO.1,aO.2.1,v12,bY,cg,ch)
 bif v10 then
  let v11:=dz ⟨aO.2.2.1,aO.2.2.2.1,aO.2.2.2.2.1,aO.2.2.2.2.2⟩
  aQ v11.2 v11.1.s v11.1.at_ v11.1.bad v11.1.made
 else
  aQ (0:Int) aO.2.2.1 aO.2.2.2.1 aO.2.2.2.2.1 aO.2.2.2.2.2
def wm(i:Int)(l:List α)(q:bh):rM α:=(i,l,q.s,q.at_,q.bad,q.made)
theorem zcB(hf: ∀q,cj q->f q=S q){n i:Int}{l:List α}{q:bh}(aB:cj q):(Ae n f (wm i l q):Step ρ (rM α))=
 bif(decide (i<n)&&(bQ q==0))then .bJ (wm (IntKind.wrap .i64 (i+1)) (l++[(S q).1]) (S q).2)else .c4 (wm i l q):=by
 have aE:dz ⟨q.s,q.at_,q.bad,q.made⟩=(q,bQ q):=jS q;have bc:f ⟨q.s,q.at_,q.bad,q.made⟩=S q:=hf q aB;unfold Ae wm;simp only[aE]
 cases decide (i<n)with
 |false=>rfl|true=>
  simp only[cond_true,zVf]
  cases (bQ q==0)with
  |false=>rfl|true=>simp only[cond_true,bc]<;>rfl
theorem zcC(hS: ∀{q:bh},cj q->cj (S q).2): ∀(m:Nat) (l:List α) {q:bh},cj q->cj (pR S m l q).2
 |0,_,_,h=>h|m+1,l,q,h=>by
  unfold pR
  cases (bQ q==0)with
  |true=>exact zcC hS m _ (hS h)|false=>exact h
theorem Th(hf: ∀q,cj q->f q=S q)(hS: ∀{q:bh},cj q->cj (S q).2): ∀(m k F N:Nat) (l:List α) {q:bh},cj q->k+m=N->N<=256->m<F->
 ∃i:Int,dk (Ae (ρ:=ρ) (N:Int) f) F (wm (k:Int) l q)= .inr (wm i (pR S m l q).1 (pR S m l q).2)
 |m,k,0,N,l,q,_,_,_,hF=>absurd hF (Nat.not_lt_zero _)|0,k,F+1,N,l,q,aB,an,_,_=>by
  refine⟨(k:Int),?_⟩;unfold dk;rw[zcB hf aB,show decide ((k:Int)<(N:Int))=false from decide_eq_false (by omega)]
  rfl
 |m+1,k,F+1,N,l,q,aB,an,m5,hF=>by
  unfold dk pR;rw[zcB hf aB,show decide ((k:Int)<(N:Int))=true from decide_eq_true (by omega),zVf]
  cases (bQ q==0)with
  |false=>exact⟨(k:Int),rfl⟩|true=>
   simp only[cond_true];rw[show IntKind.wrap .i64 ((k:Int)+1)=((k+1:Nat):Int)by rw[iz _ (by omega) (by omega)];omega]
   exact Th hf hS m (k+1) F N _ (hS aB) (by omega) m5 (by omega)
theorem CZ(q:bF):((cW q 256).1.toNat:Int)=(cW q 256).1/\(cW q 256).1.toNat<=256:=by
 have aa:=C5 q 256;have ae:=znv q 256 (by decide)
 omega
theorem zmT(hf: ∀q,cj q->f q=S q)(hS: ∀{q:bh},cj q->cj (S q).2)(K:List α->bh->ρ){gQ:bh}(aP:cj gQ){v:bh × Int}(az:v=hy gQ 256):
 zZ7 (λr=>r) (λaT=>K aT.2.1 ⟨aT.2.2.1,aT.2.2.2.1,aT.2.2.2.2.1,aT.2.2.2.2.2⟩) (dk (Ae v.2 f) c5 (0,[],v.1.s,v.1.at_,v.1.bad,v.1.made))=K (mC 256 S gQ).1 (mC 256 S gQ).2:=by
 rw[wb aP]at az;rw[az];obtain⟨aO,bz⟩:=CZ gQ;obtain⟨i,hi⟩:=Th (ρ:=ρ) hf hS (cW gQ 256).1.toNat 0 c5 (cW gQ 256).1.toNat [] (rG (n:=256) aP) (zZ0 _) bz (by unfold c5;omega)
 rw[aO]at hi;show zZ7 _ _ (dk (Ae (cW gQ 256).1 f) c5 (wm ((0:Nat):Int) [] (cW gQ 256).2))=_;rw[hi];rfl
theorem xZ(hS: ∀{q:bh},cj q->cj (S q).2){q:bh}(h:cj q):cj (mC 256 S q).2:=zcC hS _ _ (rG h)
theorem C0(hS: ∀{q:bh},cj q->cj (S q).2)(C:bh->(List α->bh->Prop)->Prop)(my: ∀q T,cj q->T [(S q).1] (S q).2->C q T)(bytes:Nat)(af:bytes<=100000)(o3:rM α->Prop)(hK: ∀(i:Int) (l:List α) (q:bh),cj q->o3 (wm i l q)){gQ:bh}(aP:cj gQ){v:bh × Int}(az:v=hy gQ 256):
    ∃(bw:rM α->Prop) (ht:rM α->Nat),bw (0,[],v.1.s,v.1.at_,v.1.bad,v.1.made)/\ht (0,[],v.1.s,v.1.at_,v.1.bad,v.1.made)<c5/\∀(d0:rM α),bw d0->(
      let v10:=decide (d0.1<v.2)
      let aQ:Int->ByteArray->Int->Int->Bool->Prop:=λv11 v12 bY cg ch=>
       ((v10&&(v11==0))=true->C ⟨v12,bY,cg,ch⟩ λgA q=>((zZ5 d0.2.1+zZ5 gA<=maxLen/\(zZ5 d0.2.1+zZ5 gA)*bytes<=140737488355328)/\
        bw ((IntKind.wrap .i64 (d0.1+(1:Int))),(zYz d0.2.1 gA),q.s,q.at_,q.bad,q.made)/\ht ((IntKind.wrap .i64 (d0.1+(1:Int))),(zYz d0.2.1 gA),q.s,q.at_,q.bad,q.made)<ht d0))/\((v10&&(v11==0))=false->o3 (d0.1,d0.2.1,v12,bY,cg,ch))
      (v10=true->(
       let v11:=dz ⟨d0.2.2.1,d0.2.2.2.1,d0.2.2.2.2.1,d0.2.2.2.2.2⟩
       aQ v11.2 v11.1.s v11.1.at_ v11.1.bad v11.1.made))/\(v10=false->(
       aQ (0:Int) d0.2.2.1 d0.2.2.2.1 d0.2.2.2.2.1 d0.2.2.2.2.2))):=by
  rw[wb aP]at az;rw[az];obtain⟨aO,bz⟩:=CZ gQ;generalize m5:(cW gQ 256).1.toNat=N at aO bz;refine⟨λd=>(0<=d.1/\d.1<=(N:Int)/\(d.2.1.length:Int)=d.1)/\cj ⟨d.2.2.1,d.2.2.2.1,d.2.2.2.2.1,d.2.2.2.2.2⟩,λd=>(N-d.1.toNat),⟨⟨zW1 _,by show(0:Int)<=N;omega,rfl⟩,rG (n:=256) aP⟩,by show N-_<c5;unfold c5;omega,λd ⟨⟨aa,ae,aw⟩,aN⟩=>?_⟩
  have aE:dz ⟨d.2.2.1,d.2.2.2.1,d.2.2.2.2.1,d.2.2.2.2.2⟩=(⟨d.2.2.1,d.2.2.2.1,d.2.2.2.2.1,d.2.2.2.2.2⟩,bQ ⟨d.2.2.1,d.2.2.2.1,d.2.2.2.2.1,d.2.2.2.2.2⟩):=jS _
  have key: ∀v11:Int,((decide (d.1<(cW gQ 256).1)&&(v11==0))=true->C ⟨d.2.2.1,d.2.2.2.1,d.2.2.2.2.1,d.2.2.2.2.2⟩ λgA q=>((zZ5 d.2.1+zZ5 gA<=maxLen/\(zZ5 d.2.1+zZ5 gA)*bytes<=140737488355328)/\
        (((0<=IntKind.wrap .i64 (d.1+(1:Int))/\IntKind.wrap .i64 (d.1+(1:Int))<=(N:Int)/\((zYz d.2.1 gA).length:Int)=IntKind.wrap .i64 (d.1+(1:Int)))/\cj ⟨q.s,q.at_,q.bad,q.made⟩))/\N-(IntKind.wrap .i64 (d.1+(1:Int))).toNat<N-d.1.toNat))/\
      ((decide (d.1<(cW gQ 256).1)&&(v11==0))=false->o3 (d.1,d.2.1,d.2.2.1,d.2.2.2.1,d.2.2.2.2.1,d.2.2.2.2.2)):=λv11=>by
    refine⟨λhc=>my _ _ aN ?_,λ_=>hK d.1 d.2.1 ⟨d.2.2.1,d.2.2.2.1,d.2.2.2.2.1,d.2.2.2.2.2⟩ aN⟩;simp only[zZr,decide_eq_true_eq]at hc;have bR:=hc.1;rw[<-aO]at bR;have w:IntKind.wrap .i64 (d.1+1)=d.1+1:=iz _ (by omega) (by omega)
    rw[w];simp only[zU2];have hm:(d.2.1.length+1)*bytes<=256*100000:=zUl (by omega) af
    refine⟨⟨by simp only[maxLen];omega,by omega⟩,⟨⟨by omega,by omega,?_⟩,hS aN⟩,by omega⟩
    show((d.2.1++[_]).length:Int)=_;rw[zVu,zU2];omega
  refine⟨λ_=>?_,λ_=>key 0⟩;simp only[aE];exact key _
end
end Go.aH
namespace Go.aH
open Go Go.aH Go.eT
section
variable {α ρ:Type} {S:bF->α × bF} {f:bh->α × bh}
theorem Ti(hf: ∀q,cj q->f q=S q)(hS: ∀{q:bh},cj q->cj (S q).2){gQ:bh}(aP:cj gQ){v:bh × Int}(az:v=hy gQ 256):
 ∃i:Int,dk (Ae (ρ:=ρ) v.2 f) c5 (0,[],v.1.s,v.1.at_,v.1.bad,v.1.made)= .inr (wm i (mC 256 S gQ).1 (mC 256 S gQ).2):=by
 rw[wb aP]at az;rw[az];obtain⟨aO,bz⟩:=CZ gQ;obtain⟨i,hi⟩:=Th (ρ:=ρ) hf hS (cW gQ 256).1.toNat 0 c5 (cW gQ 256).1.toNat [] (rG (n:=256) aP) (zZ0 _) bz (by unfold c5;omega)
 rw[aO]at hi;exact⟨i,hi⟩
theorem zcD(hS: ∀{q:bh},cj q->cj (S q).2)(C:bh->(List α->bh->Prop)->Prop)(my: ∀q T,cj q->T [(S q).1] (S q).2->C q T)(bytes:Nat)(af:bytes<=100000){gQ:bh}(aP:cj gQ){v:bh × Int}(az:v=hy gQ 256):
 ∃(bw:rM α->Prop) (ht:rM α->Nat),bw (0,[],v.1.s,v.1.at_,v.1.bad,v.1.made)/\ht (0,[],v.1.s,v.1.at_,v.1.bad,v.1.made)<c5/\∀(d0:rM α),bw d0->(
  let v10:=decide (d0.1<v.2)
  let aQ:Int->ByteArray->Int->Int->Bool->Prop:=λv11 v12 bY cg ch=>
   ((v10&&(v11==0))=true->C ⟨v12,bY,cg,ch⟩ λgA q=>((zZ5 d0.2.1+zZ5 gA<=maxLen/\(zZ5 d0.2.1+zZ5 gA)*bytes<=140737488355328)/\
    bw ((IntKind.wrap .i64 (d0.1+(1:Int))),(zYz d0.2.1 gA),q.s,q.at_,q.bad,q.made)/\ht ((IntKind.wrap .i64 (d0.1+(1:Int))),(zYz d0.2.1 gA),q.s,q.at_,q.bad,q.made)<ht d0))
  (v10=true->(
   let v11:=dz ⟨d0.2.2.1,d0.2.2.2.1,d0.2.2.2.2.1,d0.2.2.2.2.2⟩
   aQ v11.2 v11.1.s v11.1.at_ v11.1.bad v11.1.made))/\(v10=false->(
   aQ (0:Int) d0.2.2.1 d0.2.2.2.1 d0.2.2.2.2.1 d0.2.2.2.2.2))):=by
 obtain⟨I,u,aa,ae,aw⟩:=C0 hS C my bytes af (λ_=>True) (λ_ _ _ _=>trivial) aP az;exact⟨I,u,aa,ae,λd hd=>⟨λhc=>((aw d hd).1 hc).1,λhc=>((aw d hd).2 hc).1⟩⟩
end
theorem dU.int:dU bL dJ hO:=⟨fU,j8,eS⟩
theorem dU.word:dU kt (λq=>gT q 60) (λq=>ng q 60):=⟨mD,uD,jz⟩
theorem Tj{q:bh}(h:cj q):cj (LK q).2:=eS (SW (jz (jz (eS h))))
noncomputable def zcE(q:bh):bB × bh:=
 let cK:=dJ q
 let v21:=gT cK.1 (60:Int)
 let v24:=gT v21.1 (60:Int)
 let dI:=yV v24.1
 let v30:=dJ dI.1
 (⟨⟨cK.2,v21.2,v24.2⟩,⟨dI.2.kind,dI.2.n,dI.2.s⟩,v30.2⟩,v30.1)
theorem zoa(q:bh)(h:cj q):zcE q=LK q:=by
 have aa:=eS h;have ae:=jz (n:=60) aa;have aw:=jz (n:=60) ae;have aN:=SW aw;unfold zcE;simp only[fU h,mD aa,mD ae,zcn aw,fU aN];rfl
theorem dU.items:dU GZ sa yX:=by
 refine⟨λ{q} h=>?_,λ{q} h=>?_,λ{q} h=>xZ Tj h⟩
 ·unfold sa
  extract_lets v1
  obtain⟨i,hi⟩:=Ti (ρ:=bh × List bB) zoa Tj h (v:=v1) rfl;refine(congrArg (zZ7 _ _) hi).trans ?_;rfl
 ·unfold yX
  intro v1;refine⟨uE h,?_⟩
  exact zcD Tj (λq T=>
   let cK:=dJ q
   (hO q)/\
   let v21:=gT cK.1 (60:Int)
   (ng cK.1 (60:Int))/\
   let v24:=gT v21.1 (60:Int)
   (ng v21.1 (60:Int))/\
   let dI:=yV v24.1
   (En v24.1)/\
   let v30:=dJ dI.1
   (hO dI.1)/\T [⟨⟨cK.2,v21.2,v24.2⟩,⟨dI.2.kind,dI.2.n,dI.2.s⟩,v30.2⟩] v30.1) (λq T aB dt=>by
    have aa:=eS aB;have ae:=jz (n:=60) aa;have aw:=jz (n:=60) ae;have aN:=SW aw;simp only[fU aB,mD aa,mD ae,zcn aw,fU aN]
    exact⟨j8 aB,uD aa,uD ae,znP aw,j8 aN,dt⟩) 80 (by decide) h rfl
theorem dU.texts:dU Af qX Bf:=by
 refine⟨λ{q} h=>?_,λ{q} h=>?_,λ{q} h=>xZ (S:=kt) jz h⟩
 ·unfold qX
  extract_lets v1
  obtain⟨i,hi⟩:=Ti (ρ:=bh × List ByteArray) (S:=kt) (f:=λq=>((gT q 60).2,(gT q 60).1)) (λq aB=>by rw[mD aB];rfl) jz h (v:=v1) rfl
  refine(congrArg (zZ7 _ _) hi).trans ?_;rfl
 ·unfold Bf
  intro v1;refine⟨uE h,?_⟩
  exact zcD (S:=kt) jz (λq T=>let cK:=gT q (60:Int);(ng q (60:Int))/\T [cK.2] cK.1) (λq T aB dt=>by
   simp only[mD aB]
   exact⟨uD aB,dt⟩) 16 (by decide) h rfl
theorem dU.ga:dU nC pk yY:=by
 refine⟨λ{q} h=>?_,λ{q} h=>?_,λ{q} h=>eS (eS (eS (eS (dU.items.eR (dU.items.eR (eS (eS (eS h))))))))⟩
 ·have aa:=eS h
  have ae:=eS aa;have aw:=eS ae;have aN:=dU.items.eR aw;have bx:=dU.items.eR aN;have cB:=eS bx;have eN:=eS cB;have mG:=eS eN;unfold pk;simp only[fU h,fU aa,fU ae,dU.items.eq aw,dU.items.eq aN,fU bx,fU cB,fU eN,fU mG,nC,bu,cD]
 ·have aa:=eS h
  have ae:=eS aa;have aw:=eS ae;have aN:=dU.items.eR aw;have bx:=dU.items.eR aN;have cB:=eS bx;have eN:=eS cB;unfold yY;simp only[fU h,fU aa,fU ae,dU.items.eq aw,dU.items.eq aN,fU bx,fU cB,fU eN];exact⟨j8 h,j8 aa,j8 ae,dU.items.ok aw,dU.items.ok aN,j8 bx,j8 cB,j8 eN,j8 (eS eN)⟩
theorem LN{q:bh}(h:cj q):cj (Db q).2:=eS (eS h)
theorem dU.qH:dU wk y0 Eo:=by
 refine⟨λ{q} h=>?_,λ{q} h=>?_,λ{q} h=>?_⟩
 ·obtain⟨aa,ae,aw⟩:=h
  unfold y0 wk;simp only[jS]
  cases (bQ q != 0)with
  |true=>rfl|false=>
   simp only[cond_false]
   cases hd:decide (q.at_>=(q.s.size:Int))with
   |true=>
    have hd:=of_decide_eq_true hd;have hn:q.s.data.toList[q.at_.toNat]? =none:=List.getElem?_eq_none (by show q.s.size<=_;omega)
    rw[hn];rfl
   |false=>
    have hd:=of_decide_eq_false hd;obtain⟨k,an⟩: ∃k:Nat,q.at_=(k:Int):=⟨q.at_.toNat,by omega⟩
    obtain⟨aE,bc⟩:=S3 (s:=q.s) (k:=k) (by omega)
    simp only[cond_false];rw[an,zW8,aE,bc];dsimp only;generalize q.s.data.toList.getD k 0=c;have d1:decide ((c.toNat:Int)>1)=decide (1<c.toNat):=decide_eq_decide.2 (by omega)
    have d2:((c.toNat:Int)==1)=decide (c.toNat=1):=by
     rw[zU3];simp only[beq_iff_eq,decide_eq_true_eq];omega
    rw[d1,d2,iz _ (by omega) (by omega)]
    cases decide (1<c.toNat)<;>rfl
 ·obtain⟨aa,ae,aw⟩:=h
  unfold Eo;simp only[jS];intro _ hd;have hd:=of_decide_eq_false hd;exact⟨aa,by omega⟩
 ·obtain⟨aa,ae,aw⟩:=h
  unfold wk
  cases (bQ q != 0)with
  |true=>exact⟨aa,ae,aw⟩|false=>
   simp only[cond_false]
   split
   ·exact⟨aa,ae,aw⟩
   ·rename_i c hc
    have bR:q.at_.toNat<q.s.size:=(zZ1.1 hc).1;simp only[cond_eq_ite]
    split
    ·exact⟨aa,ae,aw⟩
    ·exact⟨by show(0:Int)<=q.at_+1;omega,by show q.at_+1<=(q.s.size:Int);omega,aw⟩
theorem dU.hs:dU LB w0 Ep:=by
 refine⟨λ{q} h=>?_,λ{q} h=>?_,λ{q} h=>dU.qH.eR (dU.texts.eR (xZ LN (eS (jz h))))⟩
 ·have aa:cj (kt q).2:=jz (n:=60) h
  have ae:=eS aa;have aw:=xZ LN ae;have aN:=dU.texts.eR aw;unfold w0
  extract_lets v1 v4 bg
  have aE:v1=((kt q).2,(kt q).1):=mD h;have ek:v4=((bL (kt q).2).2,(bL (kt q).2).1):=by show dJ v1.1=_;rw[aE];exact fU aa
  obtain⟨i,hi⟩:=Ti (ρ:=bh × b2) (S:=Db) (f:=λq=>let v24:=dJ q;let dI:=dJ v24.1;(⟨v24.2,dI.2⟩,dI.1)) (λq aB=>by simp only[fU aB,fU (eS aB)]<;>rfl) LN ae (v:=bg) (by show hy v4.1 256=_;rw[ek])
  refine(congrArg (zZ7 _ _) hi).trans ?_;show(let cz:=qX (mC 256 Db (bL (kt q).2).2).2;let c1:=y0 cz.1;(c1.1,(⟨v1.2,v4.2,(mC 256 Db (bL (kt q).2).2).1,cz.2,c1.2⟩:b2)))=_;simp only[dU.texts.eq aw,dU.qH.eq aN,aE,ek];rfl
 ·have aa:cj (kt q).2:=jz (n:=60) h
  have ae:=eS aa;unfold Ep;intro v1;have aE:v1=((kt q).2,(kt q).1):=mD h;refine⟨uD h,?_⟩;intro v4;have ek:v4=((bL (kt q).2).2,(bL (kt q).2).1):=by show dJ v1.1=_;rw[aE];exact fU aa
  refine⟨by rw[aE];exact j8 aa,?_⟩
  intro bg;refine⟨by rw[ek];exact uE ae,?_⟩
  intro aX
  exact C0 LN (λq T=>let v24:=dJ q;(hO q)/\let dI:=dJ v24.1;(hO v24.1)/\T [⟨v24.2,dI.2⟩] dI.1) (λq T aB dt=>by
   simp only[fU aB,fU (eS aB)]
   exact⟨j8 aB,j8 (eS aB),dt⟩) 16 (by decide) aX (λi l q aB=>by
    have j0:qX ⟨q.s,q.at_,q.bad,q.made⟩=((Af q).2,(Af q).1):=dU.texts.eq aB;show(let cz:=qX ⟨q.s,q.at_,q.bad,q.made⟩;(Bf ⟨q.s,q.at_,q.bad,q.made⟩)/\let c1:=y0 cz.1;Eo cz.1);simp only[j0]
    exact⟨dU.texts.ok (q:=q) aB,dU.qH.ok (dU.texts.eR aB)⟩) ae (by show hy v4.1 256=_;rw[ek])
end Go.aH
namespace Go.aH
open Go Go.aH Go.eT
theorem zcF: ∀(n:Nat) (l:List Int) {q:bh},cj q->cj (om n l q).2
 |0,_,_,h=>h|n+1,l,q,h=>by
  unfold om
  cases (bQ (bL q).2 != 0)with
  |true=>exact eS h|false=>exact zcF n _ (eS h)
abbrev Tk:=(List Int) × ByteArray × Int × Int × Bool
noncomputable def Tl(_:Nat)(aO:Tk):Step (bh × (List Int)) Tk:=
 let v12:=dJ ⟨aO.2.1,aO.2.2.1,aO.2.2.2.1,aO.2.2.2.2⟩
 let ch:=dz v12.1
 bif(ch.2 != 0)then
  .ret (ch.1,[])
 else
  .bJ ((zYz aO.1 ([v12.2]:List Int)),ch.1.s,ch.1.at_,ch.1.bad,ch.1.made)
theorem zcG: ∀(n k:Nat) (l:List Int) {q:bh},cj q->
 zZ7 (λr=>r) (λaT:Tk=>((⟨aT.2.1,aT.2.2.1,aT.2.2.2.1,aT.2.2.2.2⟩:bh),aT.1)) (bI Tl k n (l,q.s,q.at_,q.bad,q.made))=((om n l q).2,(om n l q).1)
 |0,_,_,_,_=>rfl|n+1,k,l,q,h=>by
  unfold bI om;have aE:dJ ⟨q.s,q.at_,q.bad,q.made⟩=((bL q).2,(bL q).1):=fU h
  have bc:Tl k (l,q.s,q.at_,q.bad,q.made)=bif(bQ (bL q).2 != 0)then .ret ((bL q).2,[])else .bJ (l++[(bL q).1],(bL q).2.s,(bL q).2.at_,(bL q).2.bad,(bL q).2.made):=by
   unfold Tl;simp only[aE,jS];rfl
  rw[bc]
  cases (bQ (bL q).2 != 0)with
  |true=>rfl|false=>exact zcG n (k+1) _ (eS h)
theorem dU.ints:dU (x2 256) (λq=>w1 q 256) (λq=>Es q 256):=by
 refine⟨λ{q} h=>?_,λ{q} h=>?_,λ{q} h=>zcF _ _ (rG h)⟩
 ·show w1 q 256=_
  unfold w1;rw[wb h];exact zcG _ _ _ (rG (n:=256) h)
 ·show Es q 256
  have aa:=rG (n:=256) h;obtain⟨aO,bz⟩:=CZ q;unfold Es;rw[wb h];refine⟨uE h,⟨C5 q 256,by show(cW q 256).1<_;omega⟩,λi d=>d.1.length=i/\cj ⟨d.2.1,d.2.2.1,d.2.2.2.1,d.2.2.2.2⟩,⟨rfl,aa⟩,λi d hi ⟨au,hd⟩=>?_⟩
  have aE:dJ ⟨d.2.1,d.2.2.1,d.2.2.2.1,d.2.2.2.2⟩=((bL ⟨d.2.1,d.2.2.1,d.2.2.2.1,d.2.2.2.2⟩).2,(bL ⟨d.2.1,d.2.2.1,d.2.2.2.1,d.2.2.2.2⟩).1):=fU hd;have hi:i<(cW q 256).1.toNat:=hi;simp only[aE,jS];refine⟨j8 hd,λ_=>⟨⟨?_,?_⟩,?_,eS hd⟩⟩
  ·simp only[zU2,maxLen];omega
  ·simp only[zU2];omega
  ·show(d.1++[_]).length=i+1
   rw[zVu,au];rfl
theorem zcH(q:bh):tI q=(q,pN q):=by
 unfold tI pN;simp only[jS]
 cases (bQ q != 0)with
 |true=>rfl|false=>
  simp only[cond_false]
  cases decide (q.at_<(q.s.size:Int))<;>rfl
theorem SC{c:Int->Int}{q:bh}(h:cj q):cj (GI c q).2:=eS (eS (jz h))
theorem SD{q:bh}(h:cj q):cj (GJ q).2:=dU.items.eR (jz h)
def dD:aY:=⟨0,⟨#[]⟩,[],[],[],[],⟨#[]⟩,[],0,[]⟩
theorem zbt{x:ByteArray}(h:b7 x):cj (kT x):=(zbh h).1
def pM(q:aY × bh):aY × Int:=if pN q.2=0 then(q.1,0)else(dD,pN q.2)
theorem zbv{s:aY}{q:bh}{v:bh × Int}(az:v=tI q):(bif(v.2 != 0)then(dD,(tI v.1).2)else(s,0))=pM (s,q):=by
 rw[zcH]at az;rw[az];unfold pM;simp only[zcH]
 by_cases aW:pN q=0
 ·rw[if_pos aW,aW];rfl
 ·rw[if_neg aW,show(pN q != 0)=true by simpa using aW];rfl
def p1(q:aY × Rd):aY × Int:=if xW q.2=0 then(q.1,0)else(dD,xW q.2)
end Go.aH
namespace Go.aH
open Go Go.aH Go.eT
structure b8 {α:Type} (R:Rd->α × Rd) (m:Rd->Rd × α) (p:Rd->Prop):Prop where
 eq: ∀{r:Rd},b7 r.rest->m r=((R r).2,(R r).1)
 ok: ∀{r:Rd},b7 r.rest->p r
 eR: ∀{r:Rd},b7 r.rest->b7 (R r).2.rest
section
variable {α ρ:Type} {R:Rd->α × Rd} {m:Rd->Rd × α} {p:Rd->Prop}
theorem zcI(h: ∀{r:Rd},b7 r.rest->b7 (R r).2.rest): ∀(n:Nat) (l:List α) {r:Rd},b7 r.rest->b7 (mE R n l r).2.rest
 |0,_,_,ah=>ah|n+1,l,r,ah=>by
  unfold mE
  cases (cl (R r).2 != 0)with
  |true=>exact h ah|false=>exact zcI h n _ (h ah)
theorem zcJ: ∀(n:Nat) (l:List α) {r:Rd},(mE R n l r).1.length<=l.length+n
 |0,_,_=>zZv _|n+1,l,r=>by
  unfold mE
  cases (cl (R r).2 != 0)with
  |true=>simp|false=>
   simp only[cond_false];have:=zcJ n (l++[(R r).1]) (r:=(R r).2);simp only[zVu,zU2]at this;omega
noncomputable def GB(m:Rd->Rd × α)(K:List α->ByteArray->Int->Bool->ρ)(_:Nat)(c:(List α) × ByteArray × Int × Bool):Step ρ ((List α) × ByteArray × Int × Bool):=
 let v:=m ⟨c.2.1,c.2.2.1,c.2.2.2⟩
 let w:=en v.1
 bif(w.2 != 0)then .ret (K ([]:List α) w.1.rest w.1.err w.1.made)
 else .bJ ((zYz c.1 ([v.2]:List α)),w.1.rest,w.1.err,w.1.made)
theorem zob(h:b8 R m p)(K:List α->ByteArray->Int->Bool->ρ)(k:Nat)(l:List α){r:Rd}(ah:b7 r.rest):
 GB m K k (l,r.rest,r.err,r.made)=bif(cl (R r).2 != 0)then .ret (K [] (R r).2.rest (R r).2.err (R r).2.made)else .bJ (l++[(R r).1],(R r).2.rest,(R r).2.err,(R r).2.made):=by
 have aE:m ⟨r.rest,r.err,r.made⟩=((R r).2,(R r).1):=h.eq ah;unfold GB;simp only[aE,ll];rfl
theorem Lt(h:b8 R m p)(K:List α->ByteArray->Int->Bool->ρ): ∀(n k:Nat) (l:List α) {r:Rd},b7 r.rest->
 zZ7 (λr=>r) (λc=>K c.1 c.2.1 c.2.2.1 c.2.2.2) (bI (GB m K) k n (l,r.rest,r.err,r.made))=
 K (mE R n l r).1 (mE R n l r).2.rest (mE R n l r).2.err (mE R n l r).2.made
 |0,k,l,r,_=>rfl|n+1,k,l,r,ah=>by
  unfold bI mE;rw[zob h K k l ah]
  cases af:(cl (R r).2 != 0)with
  |true=>rfl|false=>exact Lt h K n (k+1) _ (h.eR ah)
theorem zcK(h:b8 R m p)(o3:List α->ByteArray->Int->Bool->Prop)(n bytes:Nat)(hn:n<=256)(af:bytes<=100000)(hK: ∀(l:List α) (r:Rd),b7 r.rest->l.length<=n->o3 l r.rest r.err r.made){r:Rd}(ah:b7 r.rest):
 ∃bw:Nat->((List α) × ByteArray × Int × Bool)->Prop,bw 0 ([],r.rest,r.err,r.made)/\(∀(i:Nat) (d0:(List α) × ByteArray × Int × Bool),i<n->bw i d0->(
  let v:=m ⟨d0.2.1,d0.2.2.1,d0.2.2.2⟩
  (p ⟨d0.2.1,d0.2.2.1,d0.2.2.2⟩)/\
  let w:=en v.1
  ((w.2 != 0)=true->o3 ([]:List α) w.1.rest w.1.err w.1.made)/\((w.2 != 0)=false->(
   let v30:List α:=([v.2]:List α)
   (zZ5 d0.1+zZ5 v30<=maxLen/\(zZ5 d0.1+zZ5 v30)*bytes<=140737488355328)/\
   bw (i+1) ((zYz d0.1 v30),w.1.rest,w.1.err,w.1.made)))))/\∀aT,bw n aT->o3 aT.1 aT.2.1 aT.2.2.1 aT.2.2.2:=by
 refine⟨λi d=>d.1.length=i/\b7 d.2.1,⟨rfl,ah⟩,λi d hi ⟨aa,ae⟩=>?_,λc ⟨aa,ae⟩=>hK c.1 ⟨c.2.1,c.2.2.1,c.2.2.2⟩ ae (by omega)⟩
 have aE:m ⟨d.2.1,d.2.2.1,d.2.2.2⟩=((R ⟨d.2.1,d.2.2.1,d.2.2.2⟩).2,(R ⟨d.2.1,d.2.2.1,d.2.2.2⟩).1):=h.eq (r:=⟨d.2.1,d.2.2.1,d.2.2.2⟩) ae;have aw:=h.eR (r:=⟨d.2.1,d.2.2.1,d.2.2.2⟩) ae;refine⟨h.ok (r:=⟨d.2.1,d.2.2.1,d.2.2.2⟩) ae,?_⟩;simp only[aE,ll];refine⟨λ_=>hK [] _ aw (zXx _),λ_=>⟨⟨?_,?_⟩,?_,aw⟩⟩
 ·simp only[zU2,maxLen];omega
 ·simp only[zU2]
  have:(d.1.length+1)*bytes<=256*100000:=zUl (by omega) af
  omega
 ·show(d.1++[_]).length=i+1
  rw[zVu,aa];rfl
theorem zoc(h:b8 R m p)(n bytes:Nat)(hn:n<=256)(af:bytes<=100000){r:Rd}(ah:b7 r.rest):
 ∃bw:Nat->((List α) × ByteArray × Int × Bool)->Prop,bw 0 ([],r.rest,r.err,r.made)/\∀(i:Nat) (d0:(List α) × ByteArray × Int × Bool),i<n->bw i d0->(
  let v:=m ⟨d0.2.1,d0.2.2.1,d0.2.2.2⟩
  (p ⟨d0.2.1,d0.2.2.1,d0.2.2.2⟩)/\
  let w:=en v.1
  ((w.2 != 0)=false->(
   let v30:List α:=([v.2]:List α)
   (zZ5 d0.1+zZ5 v30<=maxLen/\(zZ5 d0.1+zZ5 v30)*bytes<=140737488355328)/\
   bw (i+1) ((zYz d0.1 v30),w.1.rest,w.1.err,w.1.made)))):=by
 obtain⟨I,aa,ae,_⟩:=zcK h (λ_ _ _ _=>True) n bytes hn af (λ_ _ _ _=>trivial) ah;refine⟨I,aa,λi d hi hd=>?_⟩;have:=ae i d hi hd;exact⟨this.1,this.2.2⟩
theorem GL{r:Rd}:(cL r 256).1.toNat<=256/\0<=(cL r 256).1/\(cL r 256).1<9223372036854775808:=by
 have aa:=zcg r 256
 have ae:(cL r 256).1<=256:=by
  unfold cL;simp only[cond_eq_ite]
  repeat' split
  all_goals first|(simp;done)|(rename_i h;simp only[decide_eq_true_eq,gt_iff_lt,Int.not_lt]at h;exact h)|skip
  all_goals simp_all
 omega
theorem qC(h: ∀{r:Rd},b7 r.rest->b7 (R r).2.rest){r:Rd}(ah:b7 r.rest):b7 (lV 256 R r).2.rest:=zcI h _ _ (rD ah)
end
theorem b8.int:b8 bk ei iJ:=⟨gY,j7,fk⟩
theorem b8.word:b8 jT k1 r6:=⟨λh=>by unfold k1;rw[Sn h];rfl,λh=>Gz h,λh=>So h⟩
theorem b8.item:b8 Te u3 Ba:=by
 refine⟨λ{r} h=>?_,λ{r} h=>?_,λ{r} h=>?_⟩
 ·have aa:=fk h
  have ae:=b8.word.eR aa;have aw:=b8.word.eR ae;have aN:=S5 aw;unfold u3;simp only[gY h,b8.word.eq aa,b8.word.eq ae,zcl aw,gY aN];rfl
 ·have aa:=fk h
  have ae:=b8.word.eR aa;have aw:=b8.word.eR ae;have aN:=S5 aw;unfold Ba;simp only[gY h,b8.word.eq aa,b8.word.eq ae,zcl aw];exact⟨j7 h,b8.word.ok aa,b8.word.ok ae,znO aw,j7 aN⟩
 ·exact fk (S5 (b8.word.eR (b8.word.eR (fk h))))
theorem b8.span:b8 LL Ea Ic:=by
 refine⟨λ{r} h=>?_,λ{r} h=>?_,λ{r} h=>fk (fk h)⟩
 ·unfold Ea
  simp only[gY h,gY (fk h)];rfl
 ·unfold Ic
  simp only[gY h];exact⟨j7 h,j7 (fk h)⟩
theorem b8.Tm{r:Rd}(h:b7 r.rest):b7 (x8 r).2.rest:=qC b8.item.eR h
theorem b8.zod{r:Rd}(h:b7 r.rest):b7 (Dc r).2.rest:=qC b8.word.eR h
theorem b8.s9:b8 Tg yI Ee:=by
 refine⟨λ{r} h=>?_,λ{r} h=>?_,λ{r} h=>b8.Tm (b8.word.eR h)⟩
 ·have aa:=b8.word.eR h
  have ae:=rD (n:=256) aa;unfold yI
  extract_lets v1 bG v4
  have aE:v1=((jT r).2,(jT r).1):=b8.word.eq h;have ek:v4=((cL (jT r).2 256).2,(cL (jT r).2 256).1):=by show fD v1.1 256=_;rw[aE];exact s6 aa
  rw[ek];refine(Lt b8.item bG _ _ _ ae).trans ?_;show(_,(⟨v1.2,_⟩:cG))=_;rw[aE];rfl
 ·have aa:=b8.word.eR h
  have ae:=rD (n:=256) aa;unfold Ee;intro v1;have aE:v1=((jT r).2,(jT r).1):=b8.word.eq h;refine⟨b8.word.ok h,?_⟩;intro v4;have ek:v4=((cL (jT r).2 256).2,(cL (jT r).2 256).1):=by show fD v1.1 256=_;rw[aE];exact s6 aa
  obtain⟨aO,bz,bd⟩:=GL (r:=(jT r).2);rw[ek,aE];exact⟨GM aa,⟨bz,bd⟩,zoc b8.item _ 80 aO (by decide) ae⟩
section
variable {α xb:Type} {R:Rd->α × Rd} {m:Rd->Rd × α} {p:Rd->Prop}
theorem LO(h:b8 R m p)(K:List α->ByteArray->Int->Bool->Rd × xb)(N:List α->Rd->xb × Rd){mz:Rd}{v:Rd × Int}(aP:b7 mz.rest)(az:v=fD mz 256)
 (hK: ∀(l:List α) (r:Rd),b7 r.rest->K l r.rest r.err r.made=((N l r).2,(N l r).1)):
 zZ7 (λr=>r) (λc=>K c.1 c.2.1 c.2.2.1 c.2.2.2) (bI (GB m K) 0 (zZ9 v.2) ([],v.1.rest,v.1.err,v.1.made))=((bu (lV 256 R) N mz).2,(bu (lV 256 R) N mz).1):=by
 rw[s6 aP]at az;rw[az];exact(Lt h K _ _ _ (rD aP)).trans (hK _ _ (qC h.eR aP))
theorem qD(h:b8 R m p)(o3:List α->ByteArray->Int->Bool->Prop)(bytes:Nat)(af:bytes<=100000){mz:Rd}{v:Rd × Int}(aP:b7 mz.rest)(az:v=fD mz 256)
 (hK: ∀(l:List α) (r:Rd),b7 r.rest->o3 l r.rest r.err r.made):
 (k0 mz 256)/\(0<=v.2/\v.2<(9223372036854775808:Int))/\
 ∃bw:Nat->((List α) × ByteArray × Int × Bool)->Prop,bw 0 ([],v.1.rest,v.1.err,v.1.made)/\(∀(i:Nat) (d0:(List α) × ByteArray × Int × Bool),i<zZ9 v.2->bw i d0->(
  let v:=m ⟨d0.2.1,d0.2.2.1,d0.2.2.2⟩
  (p ⟨d0.2.1,d0.2.2.1,d0.2.2.2⟩)/\
  let w:=en v.1
  ((w.2 != 0)=true->o3 ([]:List α) w.1.rest w.1.err w.1.made)/\((w.2 != 0)=false->(
   let v30:List α:=([v.2]:List α)
   (zZ5 d0.1+zZ5 v30<=maxLen/\(zZ5 d0.1+zZ5 v30)*bytes<=140737488355328)/\
   bw (i+1) ((zYz d0.1 v30),w.1.rest,w.1.err,w.1.made)))))/\∀aT,bw (zZ9 v.2) aT->o3 aT.1 aT.2.1 aT.2.2.1 aT.2.2.2:=by
 rw[s6 aP]at az;obtain⟨aO,bz,bd⟩:=GL (r:=mz);rw[az];exact⟨GM aP,⟨bz,bd⟩,zcK h o3 _ bytes aO af (λl r ah _=>hK l r ah) (rD aP)⟩
end
theorem zoe{r:Rd}(h:b7 r.rest):qR r=((m0 r).2,(m0 r).1):=by
 have aa:=fk h;have ae:=fk aa;have aw:=fk ae;unfold qR
 extract_lets v1 v4 bg bG v10
 have aE:v1=((bk r).2,(bk r).1):=gY h;have ek:v4=((bk (bk r).2).2,(bk (bk r).2).1):=by show ei v1.1=_;rw[aE];exact gY aa
 have xY:bg=((bk (bk (bk r).2).2).2,(bk (bk (bk r).2).2).1):=by show ei v4.1=_;rw[ek];exact gY ae
 have hd:m0 r=bu x8 (λp=>bu x8 λq=>bu bk λw=>bu bk λk=>bu bk λs=>bu bk λh=>cD ⟨v1.2,v4.2,bg.2,p,q,w,k,s,h⟩) (bk (bk (bk r).2).2).2:=by rw[aE,ek,xY];simp only[m0,bu]
 rw[hd];refine LO b8.item bG (λp=>bu x8 λq=>bu bk λw=>bu bk λk=>bu bk λs=>bu bk λh=>cD (⟨v1.2,v4.2,bg.2,p,q,w,k,s,h⟩:bf)) aw (by show fD bg.1 256=_;rw[xY]) λl sP aN=>?_
 unfold bG
 extract_lets cT cg
 refine LO b8.item cT (λq=>bu bk λw=>bu bk λk=>bu bk λs=>bu bk λh=>cD (⟨v1.2,v4.2,bg.2,l,q,w,k,s,h⟩:bf)) aN rfl λyp kr bx=>?_;have cB:=fk bx;have eN:=fk cB;have mG:=fk eN;unfold cT;have j0:ei ⟨kr.rest,kr.err,kr.made⟩=((bk kr).2,(bk kr).1):=gY bx;simp only[j0,gY cB,gY eN,gY mG,bu,cD]
theorem zof{r:Rd}(h:b7 r.rest):yF r:=by
 have aa:=fk h;have ae:=fk aa;have aw:=fk ae;unfold yF;intro v1;have aE:v1=((bk r).2,(bk r).1):=gY h;refine⟨j7 h,?_⟩;intro v4;have ek:v4=((bk (bk r).2).2,(bk (bk r).2).1):=by show ei v1.1=_;rw[aE];exact gY aa
 refine⟨by rw[aE];exact j7 aa,?_⟩
 intro bg;have xY:bg=((bk (bk (bk r).2).2).2,(bk (bk (bk r).2).2).1):=by show ei v4.1=_;rw[ek];exact gY ae
 refine⟨by rw[ek];exact j7 ae,?_⟩
 intro bG v10;have eN:b7 bg.1.rest:=by rw[xY];exact aw
 refine qD b8.item bG 80 (by decide) eN rfl λl sP aN=>?_
 unfold bG;intro cT cg;refine qD b8.item cT 80 (by decide) aN rfl λyp kr bx=>?_
 unfold cT;have cB:=fk bx;have eN:=fk cB;have j0:ei ⟨kr.rest,kr.err,kr.made⟩=((bk kr).2,(bk kr).1):=gY bx;simp only[j0,gY cB,gY eN];exact⟨j7 (r:=kr) bx,j7 cB,j7 eN,j7 (fk eN)⟩
theorem Sr{r:Rd}(h:b7 r.rest):b7 (m0 r).2.rest:=fk (fk (fk (fk (b8.Tm (b8.Tm (fk (fk (fk h))))))))
theorem b8.ga:b8 m0 qR yF:=⟨zoe,zof,Sr⟩
theorem zog{s:ByteArray}{c:UInt8}{t:List UInt8}(h:s.data.toList=c::t):oI s 0=(c.toNat:Int)/\0<s.size/\s≠⟨#[]⟩:=by
 have ao:s.size=s.data.toList.length:=rfl;refine⟨?_,by rw[ao,h];simp,λe=>by subst e;cases h⟩
 unfold oI;rw[h];rfl
theorem b8.qH:b8 pS Bb Ie:=by
 refine⟨λ{r} h=>?_,λ{r} h=>?_,λ{r} h=>?_⟩
 ·unfold Bb pS
  simp only[ll]
  cases (cl r != 0)with
  |true=>rfl|false=>
   simp only[cond_false]
   cases au:r.rest.data.toList with
   |nil=>
    have:r.rest=⟨#[]⟩:=uI (by rw[au])
    have he:gp .eql r.rest (⟨#[]⟩:ByteArray)=true:=by rw[this];decide
    simp only[he,cond_true]
   |cons c t=>
    obtain⟨e6,gl,iB⟩:=zog au
    have he:gp .eql r.rest (⟨#[]⟩:ByteArray)=false:=by
     show gv _ _=false;exact zbC.2 iB
    simp only[he,cond_false,e6];have d1:decide ((c.toNat:Int)>1)=decide (1<c.toNat):=decide_eq_decide.2 (by omega)
    rw[d1]
    cases decide (1<c.toNat)with
    |true=>rfl|false=>
     simp only[cond_false]
     have d2:((c.toNat:Int)==1)=decide (c.toNat=1):=by
      rw[zU3];simp only[beq_iff_eq,decide_eq_true_eq];omega
     rw[d2];rfl
 ·unfold Ie
  simp only[ll];intro _ he;have b6:r.rest≠⟨#[]⟩:=zbC.1 he
  have W6:0<r.rest.size:=by
   rcases Nat.eq_zero_or_pos r.rest.size with aP|aP
   ·exact absurd (uI (by
     have:r.rest.data.toList.length=0:=aP
     rw[List.eq_nil_of_length_eq_zero this])) b6
   ·exact aP
  refine⟨⟨zW1 _,by omega⟩,λ_=>⟨⟨zW1 _,by omega⟩,by decide,by omega⟩⟩
 ·unfold pS
  cases (cl r != 0)with
  |true=>exact h|false=>
   simp only[cond_false]
   split
   ·exact h
   ·simp only[cond_eq_ite]
    split
    ·exact h
    ·exact S4 h
theorem b8.hs:b8 LM yG Eb:=by
 refine⟨λ{r} h=>?_,λ{r} h=>?_,λ{r} h=>b8.qH.eR (b8.zod (qC b8.span.eR (fk (b8.word.eR h))))⟩
 ·have aa:=b8.word.eR h
  have ae:=fk aa;unfold yG
  extract_lets v1 v4 bG bg
  have aE:v1=((jT r).2,(jT r).1):=b8.word.eq h;have ek:v4=((bk (jT r).2).2,(bk (jT r).2).1):=by show ei v1.1=_;rw[aE];exact gY aa
  have hd:LM r=bu (lV 256 LL) (λs=>bu Dc λl=>bu pS λh=>cD ⟨v1.2,v4.2,s,l,h⟩) (bk (jT r).2).2:=by rw[aE,ek];rfl
  rw[hd];refine LO b8.span bG (λs=>bu Dc λl=>bu pS λh=>cD (⟨v1.2,v4.2,s,l,h⟩:b2)) ae (by show fD v4.1 256=_;rw[ek]) λl sP aN=>?_
  unfold bG
  extract_lets cT cg
  refine LO b8.word cT (λq=>bu pS λh=>cD (⟨v1.2,v4.2,l,q,h⟩:b2)) aN rfl λyp kr bx=>?_;unfold cT;have j0:Bb ⟨kr.rest,kr.err,kr.made⟩=((pS kr).2,(pS kr).1):=b8.qH.eq bx;simp only[j0];rfl
 ·have aa:=b8.word.eR h
  have ae:=fk aa;unfold Eb;intro v1;have aE:v1=((jT r).2,(jT r).1):=b8.word.eq h;refine⟨b8.word.ok h,?_⟩;intro v4;have ek:v4=((bk (jT r).2).2,(bk (jT r).2).1):=by show ei v1.1=_;rw[aE];exact gY aa
  refine⟨by rw[aE];exact j7 aa,?_⟩
  intro bG bg;have eN:b7 v4.1.rest:=by rw[ek];exact ae
  refine qD b8.span bG 16 (by decide) eN rfl λl sP aN=>?_
  unfold bG;intro cT cg;exact qD b8.word cT 16 (by decide) aN rfl λyp kr bx=>b8.qH.ok bx
theorem b8.s8:b8 (Tf (IntKind.wrap .u64)) yH Ec:=by
 refine⟨λ{r} h=>?_,λ{r} h=>?_,λ{r} h=>fk (fk (b8.word.eR h))⟩
 ·have aa:=b8.word.eR h
  have ae:=fk aa;unfold yH;simp only[b8.word.eq h,gY aa,gY ae];rfl
 ·have aa:=b8.word.eR h
  have ae:=fk aa;unfold Ec;simp only[b8.word.eq h,gY aa];exact⟨b8.word.ok h,j7 aa,j7 ae⟩
end Go.aH
namespace Go.aH
open Go Go.aH Go.eT
theorem zcL(r:Rd):yJ r=(r,pP r):=by
 unfold yJ pP;simp only[ll]
 cases (cl r != 0)<;>rfl
theorem zcM{r:Rd}: ∀(F:Nat) {r:Rd},b7 r.rest->b7 (drain F r).rest
 |0,_,h=>h|F+1,r,h=>by
  unfold drain
  cases (cl r==0)with
  |true=>exact zcM (r:=r) F (fk h)|false=>exact h
theorem zcN{ρ:Type}{b:ByteArray × Int × Bool->Step ρ (ByteArray × Int × Bool)}(af: ∀r:Rd,b7 r.rest->b (r.rest,r.err,r.made)=bif cl r==0 then .bJ ((bk r).2.rest,(bk r).2.err,(bk r).2.made)else .c4 (r.rest,r.err,r.made)):
 ∀(F:Nat) (r:Rd),b7 r.rest->dk b F (r.rest,r.err,r.made)= .inr ((drain F r).rest,(drain F r).err,(drain F r).made)
 |0,_,_=>rfl|F+1,r,h=>by
  unfold dk drain;rw[af r h]
  cases (cl r==0)with
  |true=>exact zcN af F _ (fk h)|false=>rfl
theorem Tn: ∀(n:Nat) (l:List Int) {r:Rd},b7 r.rest->b7 (je n l r).2.rest
 |0,_,_,h=>h|n+1,l,r,h=>Tn n _ (fk h)
theorem zcO{ρ:Type}{b:Nat->(List Int) × ByteArray × Int × Bool->Step ρ ((List Int) × ByteArray × Int × Bool)}(af: ∀(i:Nat) (l:List Int) (r:Rd),b7 r.rest->b i (l,r.rest,r.err,r.made)= .bJ (l++[(bk r).1],(bk r).2.rest,(bk r).2.err,(bk r).2.made)):
 ∀(n k:Nat) (l:List Int) (r:Rd),b7 r.rest->bI b k n (l,r.rest,r.err,r.made)= .inr ((je n l r).1,(je n l r).2.rest,(je n l r).2.err,(je n l r).2.made)
 |0,_,_,_,_=>rfl|n+1,k,l,r,h=>by
  unfold bI je;rw[af k l r h];exact zcO af n (k+1) _ _ (fk h)
theorem b8.ints:b8 (wh c5 256) (λr=>wW r 256) (λr=>Be r 256):=by
 refine⟨λ{r} h=>?_,λ{r} h=>?_,λ{r} h=>?_⟩
 ·have aa:=rD (n:=256) h
  show wW r 256=_;unfold wW wh;rw[s6 h];dsimp only;rw[zcL]
  cases hd:decide ((cL r 256).1>pP (cL r 256).2)with
  |true=>
   simp only[cond_true];rw[zcN (λq aB=>?_) c5 (cL r 256).2 aa]
   ·rfl
   ·have e:en ⟨q.rest,q.err,q.made⟩=(q,cl q):=ll q
    simp only[e,gY aB]
  |false=>
   simp only[cond_false];rw[zcO (λi l q aB=>?_) _ 0 [] (cL r 256).2 aa]
   ·have e:en ⟨(je (cL r 256).1.toNat [] (cL r 256).2).2.rest,(je (cL r 256).1.toNat [] (cL r 256).2).2.err,(je (cL r 256).1.toNat [] (cL r 256).2).2.made⟩=((je (cL r 256).1.toNat [] (cL r 256).2).2,_):=ll (je (cL r 256).1.toNat [] (cL r 256).2).2
    simp only[zV9,e]
    cases (cl (je (cL r 256).1.toNat [] (cL r 256).2).2 != 0)<;>rfl
   ·have e:ei ⟨q.rest,q.err,q.made⟩=((bk q).2,(bk q).1):=gY aB
    simp only[e];rfl
 ·have aa:=rD (n:=256) h
  obtain⟨aO,bz,bd⟩:=GL (r:=r);show Be r 256;unfold Be;rw[s6 h];refine⟨GM h,?_⟩;simp only[zcL];refine⟨λ_=>⟨λd=>b7 d.1,λd=>d.1.size+(bif d.2.1==0 then 1 else 0),aa,?_,λd hd=>?_⟩,λ_=>⟨⟨bz,bd⟩,λi d=>d.1.length=i/\b7 d.2.1,⟨rfl,aa⟩,λi d hi ⟨au,hd⟩=>?_⟩⟩
  ·have:(cL r 256).2.rest.size<=4611686018427387904:=aa
   have ae: ∀b:Bool,(bif b then 1 else 0:Nat)<=1:=λb=>by cases b<;>decide
   have:=ae ((cL r 256).2.err==0);show(cL r 256).2.rest.size+(bif(cL r 256).2.err==0 then 1 else 0)<c5
   unfold c5;omega
  ·have e:en ⟨d.1,d.2.1,d.2.2⟩=(⟨d.1,d.2.1,d.2.2⟩,cl ⟨d.1,d.2.1,d.2.2⟩):=ll ⟨d.1,d.2.1,d.2.2⟩
   have wK:b7 (⟨d.1,d.2.1,d.2.2⟩:Rd).rest:=hd;simp only[e];intro he;rw[gY wK];refine⟨j7 wK,fk wK,?_⟩;have vt:cl ⟨d.1,d.2.1,d.2.2⟩=0:=by simpa using he
   have zcP:d.2.1=0/\d.2.2=true:=by
    unfold cl at vt
    cases hm:d.2.2 with
    |true=>rw[hm]at vt;exact⟨vt,rfl⟩|false=>rw[hm]at vt;cases vt
   show(bk ⟨d.1,d.2.1,d.2.2⟩).2.rest.size+_<d.1.size+_;rw[zcP.1];simp only[beq_self_eq_true,cond_true]
   by_cases hx:cl (bk ⟨d.1,0,d.2.2⟩).2=0
   ·have:=zcq hx
    have ae: ∀b:Bool,(bif b then 1 else 0:Nat)<=1:=λb=>by cases b<;>decide
    have:=ae ((bk ⟨d.1,0,d.2.2⟩).2.err==0);have aw:(⟨d.1,0,d.2.2⟩:Rd).rest.size=d.1.size:=rfl;omega
   ·have hm:(bk ⟨d.1,0,d.2.2⟩).2.made=d.2.2/\((bk ⟨d.1,0,d.2.2⟩).2.rest.size<=d.1.size):=by
     unfold bk;simp only[cond_eq_ite]
     repeat' split
     all_goals first|exact⟨rfl,zZv _⟩|(refine⟨rfl,?_⟩;show(zU4 _ _ _).size<=_;rw[zUb];omega)
    have b6:((bk ⟨d.1,0,d.2.2⟩).2.err==0)=false:=by
     have zcQ:(bk ⟨d.1,0,d.2.2⟩).2.made=true:=hm.1.trans zcP.2;generalize (bk ⟨d.1,0,d.2.2⟩).2=X at hx zcQ⊢;unfold cl at hx;rw[zcQ]at hx;simpa using hx
    rw[b6];simp only[cond_false];omega
  ·have e:ei ⟨d.2.1,d.2.2.1,d.2.2.2⟩=((bk ⟨d.2.1,d.2.2.1,d.2.2.2⟩).2,(bk ⟨d.2.1,d.2.2.1,d.2.2.2⟩).1):=gY (r:=⟨d.2.1,d.2.2.1,d.2.2.2⟩) hd
   simp only[e];refine⟨j7 (r:=⟨d.2.1,d.2.2.1,d.2.2.2⟩) hd,⟨?_,?_⟩,?_,fk (r:=⟨d.2.1,d.2.2.1,d.2.2.2⟩) hd⟩
   ·simp only[zU2,maxLen];omega
   ·simp only[zU2];omega
   ·show(d.1++[_]).length=i+1
    rw[zVu,au];rfl
 ·have aa:=rD (n:=256) h
  unfold wh;simp only[cond_eq_ite]
  split
  ·exact zcM (r:=r) _ aa
  ·split
   ·exact Tn _ _ aa
   ·exact Tn _ _ aa
end Go.aH
namespace Go.aH
open Go Go.aH Go.eT
theorem wo{R:Type}{b:Nat->Unit->Step R Unit}: ∀(n k:Nat),(∀i,b i ()= .bJ ())->bI b k n ()= .inr ()
 |0,_,_=>rfl|n+1,k,h=>by
  simp only[bI,h k];exact wo n (k+1) h
theorem LP(a:ByteArray):gv a a=true:=CS.2 rfl
theorem zcR(a:ByteArray):gp .neq a a=false:=by
 show(!(gv a a))=false;rw[LP];rfl
theorem UT(a:ByteArray):gp .eql a a=true:=LP a
theorem zcS(l:List bB):wU l l=true:=by
 unfold wU;simp only[bne_self_eq_false,cond_false];rw[wo _ _ λi=>by simp only[beq_self_eq_true,LP,cond_true,zU5,cond_false]]
 rfl
theorem LQ(l:List bB):D5 l l:=λ_=>⟨λ_ _=>True,trivial,λi _ hi _=>⟨⟨by omega,by rw[zW8]at hi;omega⟩,λ_=>trivial⟩⟩
theorem zcT(l:List ByteArray):m32 l l=true:=by
 unfold m32;simp only[bne_self_eq_false,cond_false];rw[wo _ _ λi=>by simp only[zcR,cond_false]]
 rfl
theorem To(l:List ByteArray):H8 l l:=λ_=>⟨λ_ _=>True,trivial,λi _ hi _=>⟨⟨by omega,by rw[zW8]at hi;omega⟩,λ_=>trivial⟩⟩
theorem zoh(l:List Int):D4 l l=true:=by
 unfold D4;simp only[bne_self_eq_false,cond_false];rw[wo _ _ λi=>by simp only[bne_self_eq_false,cond_false]]
 rfl
theorem zoi(l:List Int):Nq l l:=λ_=>⟨λ_ _=>True,trivial,λi _ hi _=>⟨⟨by omega,by rw[zW8]at hi;omega⟩,λ_=>trivial⟩⟩
theorem zoj(l:List c0):D1 l l=true:=by
 unfold D1;simp only[bne_self_eq_false,cond_false];rw[wo _ _ λi=>by simp only[beq_self_eq_true,cond_true,zU5,cond_false]]
 rfl
theorem zok(l:List c0):No l l:=λ_=>⟨λ_ _=>True,trivial,λi _ hi _=>⟨⟨by omega,by rw[zW8]at hi;omega⟩,λ_=>trivial⟩⟩
theorem zol(b:Bool):gy.den (.qO false) b b=true:=by cases b<;>rfl
theorem zom(x:b2):D2 x x=true:=by
 unfold D2;have af:gy.den (.qO false) x.home x.home=true:=zol _;simp only[UT,beq_self_eq_true,af,zVg,cond_true,zoj,zcT]
theorem zon(x:b2):H9 x x:=by
 unfold H9;dsimp only;exact⟨λ_=>⟨zok _,λ_=>To _⟩,λ_ _=>To _⟩
theorem zoo(l:List b2):D3 l l=true:=by
 unfold D3;simp only[bne_self_eq_false,cond_false,zom,zU5];rw[wo _ _ λi=>rfl];rfl
theorem zop(l:List b2):Np l l:=λ_=>⟨λ_ _=>True,trivial,λi _ hi _=>⟨⟨by omega,by rw[zW8]at hi;omega⟩,zon _,λ_=>trivial⟩⟩
theorem zoq(x:bf):D6 x x=true:=by
 unfold D6;simp only[beq_self_eq_true,zVg,cond_true,zcS]
theorem zor(x:bf):Ia x x:=by
 unfold Ia;dsimp only;exact⟨λ_=>⟨LQ _,λ_=>LQ _⟩,λ_ _=>LQ _⟩
theorem zfq(x:aY):D7 x x=true:=by
 unfold D7;simp only[bne_self_eq_false,zcR,Bool.or_self,cond_false,zoo,zcT,zoh,zU5,zoq,zcS];rw[wo _ _ λi=>rfl,zV9,wo _ _ λi=>by simp only[LP,beq_self_eq_true,cond_true,zU5,cond_false],zV9,wo _ _ λi=>rfl]
 rfl
theorem zfp{x:aY}(aa:x.eW.length<=256)(ae:x.eh.length<=256):DZ x x:=by
 unfold DZ;intro cq aQ
 have H: ∀v,aQ v:=by
  intro v;unfold aQ;intro v11 bG
  have zcU: ∀v,bG v:=by
   intro v;unfold bG;intro cg cT
   have zcV: ∀v,cT v:=by
    intro v;unfold cT;intro _ cK v21 v25 _ aX;refine⟨λ_ _=>True,trivial,λi _ hi _=>⟨⟨zU6 i,?_⟩,zor _,λ_=>trivial⟩,λ_ _=>?_⟩
    ·have hi:i<zZ9 (x.bm.length:Int):=hi
     rw[zW8]at hi;omega
    ·unfold aX
     refine⟨⟨zU6 _,by show(x.eW.length:Int)<_;omega⟩,?_⟩
     intro eG;refine⟨λ_ _=>True,trivial,λi _ hi _=>⟨⟨zU6 i,?_⟩,λ_=>trivial⟩,λ_ _=>?_⟩
     ·have hi:i<zZ9 (x.eW.length:Int):=hi
      rw[zW8]at hi;omega
     ·unfold eG
      refine⟨⟨zU6 _,by show(x.eh.length:Int)<_;omega⟩,λ_ _=>True,trivial,λi _ hi _=>?_⟩
      have hi:i<zZ9 (x.eh.length:Int):=hi;have af:(0:Int)<=(i:Int)/\(i:Int)<(x.eh.length:Int):=⟨zU6 i,by rw[zW8]at hi;omega⟩
      exact⟨af,λ_=>af,λ_ _=>trivial,λ_=>⟨LQ _,λ_=>trivial⟩⟩
   exact⟨λ_=>zcV _,λ_=>⟨zoi _,zcV _⟩⟩
  exact⟨λ_=>zcU _,λ_=>⟨To _,zcU _⟩⟩
 exact⟨λ_=>H _,λ_=>⟨zop _,H _⟩⟩
theorem zcW{α:Type}{R:Rd->α × Rd}(r:Rd):(lV 256 R r).1.length<=256:=by
 have aa:=(GL (r:=r)).1;have ae:=zcJ (R:=R) (cL r 256).1.toNat [] (r:=(cL r 256).2);have aw:(lV 256 R r).1=(mE R (cL r 256).1.toNat [] (cL r 256).2).1:=rfl;rw[aw];simp only[zU1]at ae;omega
theorem zos(c:Int->Int)(i:Nat){s:aY}(aa:s.eW.length<=256)(ae:s.eh.length<=256)(r:Rd):(oh c i s r).1.eW.length<=256/\(oh c i s r).1.eh.length<=256:=by
 unfold oh
 split
 ·exact⟨aa,ae⟩
 ·exact⟨aa,ae⟩
 ·exact⟨aa,ae⟩
 ·exact⟨aa,ae⟩
 ·exact⟨aa,ae⟩
 ·exact⟨zcW r,ae⟩
 ·exact⟨aa,ae⟩
 ·exact⟨aa,zcW r⟩
 ·exact⟨aa,ae⟩
 ·exact⟨aa,ae⟩
theorem Nk(c:Int->Int)(p:Nat->Bool): ∀(n i:Nat) {s:aY},s.eW.length<=256->s.eh.length<=256->∀r,(r3 c p n i s r).1.eW.length<=256/\(r3 c p n i s r).1.eh.length<=256
 |0,_,_,aa,ae,_=>⟨aa,ae⟩|n+1,i,s,aa,ae,r=>by
  have ao:r3 c p (n+1) i s r=r3 c p n (i+1) ((bif p i then oh c i s else cD s) r).1 ((bif p i then oh c i s else cD s) r).2:=rfl
  rw[ao]
  cases p i with
  |true=>
   obtain⟨g1,g2⟩:=zos c i aa ae r;exact Nk c p n (i+1) g1 g2 _
  |false=>exact Nk c p n (i+1) aa ae _
end Go.aH
namespace Go.aH
open Go Go.aH Go.eT
theorem m3{B:Nat}{x:Int}(h:hr B ⟨.int .i64,x⟩):dS x:=by
 cases h
 rename_i h;have h:(decide (-9223372036854775808<=x)&&decide (x<=9223372036854775807))=true:=h;rw[zZr]at h;have aa:=of_decide_eq_true h.1;have ae:=of_decide_eq_true h.2;exact⟨aa,by omega⟩
theorem tF{x:ByteArray}(h:hr 1048576 ⟨.str,x⟩):jl x:=by
 cases h with
 |str s ao=>exact ao
theorem p2{c:bZ}{B:Nat}{l:List (hY c)}(h:hr B ⟨.li c,l⟩):l.length<=B/\∀x∈l,∀d∈hN c x,hr B d:=by
 cases h with
 |li _ _ aa ae=>exact⟨aa,ae⟩
theorem LR{b:Nat->Unit->Step Bool Unit}{c:Nat->Bool}{K:Unit->Bool}(af: ∀i,b i ()=bif c i then .ret false else .bJ ()): ∀(n k:Nat),zZ7 (λr=>r) K (bI b k n ())=true->(∀i,k<=i->i<k+n->c i=false)/\K ()=true
 |0,k,h=>⟨λi aa ae=>by omega,h⟩
 |n+1,k,h=>by
  simp only[bI,af k]at h
  cases hc:c k with
  |true=>rw[hc]at h;cases h
  |false=>
   rw[hc]at h;obtain⟨aa,ae⟩:=LR af n (k+1) h;refine⟨λi g1 g2=>?_,ae⟩
   rcases Nat.lt_or_ge k i with g|g
   ·exact aa i (by omega) (by omega)
   ·have:i=k:=by omega
    rw[this];exact hc
theorem Tp{α:Type}{l:List α}{x d:α}(h:x∈l): ∃i,i<l.length/\zZ8 l i d=x:=by
 obtain⟨i,hi,rfl⟩:=List.mem_iff_getElem.1 h;exact⟨i,hi,by rw[zZe,zZa hi];rfl⟩
def zcX(x:aY):Prop:=x.bm.length<=24/\x.ic.length<=24/\x.members.length<=24/\x.eW.length<=24/\x.eh.length<=24/\x.iH.length<=24/\(∀s∈x.bm,s.reported.length<=40/\s.kb.length<=40)/\(∀s∈x.members,s.iy.length<=24/\s.kZ.length<=24)/\∀s∈x.eh,s.items.length<=40
theorem US{x:aY}(h:r5 x=true):zcX x:=by
 unfold r5 at h;dsimp only at h
 cases hc:((((((((decide ((x.bm.length:Int)>24))||(decide ((zZ5 x.ic:Int)>24)))||(decide ((x.members.length:Int)>24)))||(decide ((zZ5 x.eW:Int)>24)))||(decide ((x.eh.length:Int)>24)))||(decide ((zZ5 x.iH:Int)>24)))||(decide ((zZ6 x.source:Int)>3000)))||(decide ((zZ6 x.mode:Int)>3000)))with
 |true=>rw[hc]at h;cases h
 |false=>
  rw[hc]at h;simp only[zUx,decide_eq_false_iff_not]at hc;obtain⟨⟨⟨⟨⟨⟨⟨aO,bz⟩,bd⟩,dV⟩,eK⟩,ij⟩,gg⟩,pn⟩:=hc;simp only[cond_false,zW8]at h
  obtain⟨aa,h⟩:=LR (c:=λi=>!(p4 (zZ8 x.bm i (aZ .bf)).reported)|| !(p4 (zZ8 x.bm i (aZ .bf)).kb)) (λi=>by
   cases p4 (zZ8 x.bm i (aZ .bf)).reported<;>cases p4 (zZ8 x.bm i (aZ .bf)).kb<;>rfl) _ _ h
  obtain⟨ae,h⟩:=LR (c:=λi=>(decide ((zZ5 ((zZ8 x.members i (aZ .b2)).iy):Int)>24))||(decide ((zZ5 ((zZ8 x.members i (aZ .b2)).kZ):Int)>24))) (λi=>rfl) _ _ h
  obtain⟨aw,_⟩:=LR (c:=λi=>!(p4 (zZ8 x.eh i (aZ .cG)).items)) (λi=>rfl) _ _ h;refine⟨by omega,by omega,by omega,by omega,by omega,by omega,λs ao=>?_,λs ao=>?_,λs ao=>?_⟩
  ·obtain⟨i,hi,rfl⟩:=Tp (d:=aZ .bf) ao
   have:=aa i (zXx _) (by omega)
   simp only[p4,zUx,zU7,decide_eq_true_eq]at this;omega
  ·obtain⟨i,hi,rfl⟩:=Tp (d:=aZ .b2) ao
   have:=ae i (zXx _) (by omega)
   simp only[zUx,decide_eq_false_iff_not]at this;omega
  ·obtain⟨i,hi,rfl⟩:=Tp (d:=aZ .cG) ao
   have:=aw i (zXx _) (by omega)
   simp only[p4,zU7,decide_eq_true_eq]at this;omega
abbrev jY:Nat:=1048576
theorem zot{x:bB}(h: ∀d∈hN .bB x,hr jY d):tj x:=by
 have a8: ∀(i:Nat) (d:aK),(hN .bB x)[i]? =some d->hr jY d:=λi d hi=>h d (zZ4 hi);exact⟨m3 (a8 0 _ rfl),tF (a8 1 _ rfl),tF (a8 2 _ rfl),⟨m3 (a8 3 _ rfl),m3 (a8 4 _ rfl),tF (a8 5 _ rfl)⟩,m3 (a8 6 _ rfl)⟩
theorem Tq{l:List bB}(h:hr jY ⟨.li .bB,l⟩)(au:l.length<=40):jx tj l:=⟨au,λx hx=>zot ((p2 h).2 x hx)⟩
theorem zou{x:bf}(h: ∀d∈hN .bf x,hr jY d)(aa:x.reported.length<=40)(ae:x.kb.length<=40):uB x:=by
 have a8: ∀(i:Nat) (d:aK),(hN .bf x)[i]? =some d->hr jY d:=λi d hi=>h d (zZ4 hi);exact⟨⟨m3 (a8 0 _ rfl),m3 (a8 1 _ rfl),m3 (a8 2 _ rfl)⟩,⟨Tq (a8 3 _ rfl) aa,Tq (a8 4 _ rfl) ae⟩,m3 (a8 5 _ rfl),m3 (a8 6 _ rfl),m3 (a8 7 _ rfl),m3 (a8 8 _ rfl)⟩
theorem zov{x:c0}(h: ∀d∈hN .c0 x,hr jY d):Ar x:=by
 have a8: ∀(i:Nat) (d:aK),(hN .c0 x)[i]? =some d->hr jY d:=λi d hi=>h d (zZ4 hi);exact⟨m3 (a8 0 _ rfl),m3 (a8 1 _ rfl)⟩
theorem zcY{x:ByteArray}(h: ∀d∈hN .str x,hr jY d):jl x:=tF (h _ (zZ4 (i:=0) rfl))
theorem zow{x:Int}(h: ∀d∈hN .i64 x,hr jY d):dS x:=m3 (h _ (zZ4 (i:=0) rfl))
theorem zox{x:b2}(h: ∀d∈hN .b2 x,hr jY d)(aa:x.iy.length<=40)(ae:x.kZ.length<=40):GX x:=by
 have a8: ∀(i:Nat) (d:aK),(hN .b2 x)[i]? =some d->hr jY d:=λi d hi=>h d (zZ4 hi);exact⟨tF (a8 0 _ rfl),m3 (a8 1 _ rfl),⟨aa,λy aA=>zov ((p2 (a8 2 _ rfl)).2 y aA)⟩,ae,λy aA=>zcY ((p2 (a8 3 _ rfl)).2 y aA)⟩
theorem zoy{x:de}(h: ∀d∈hN .de x,hr jY d):C9 x:=by
 have a8: ∀(i:Nat) (d:aK),(hN .de x)[i]? =some d->hr jY d:=λi d hi=>h d (zZ4 hi);exact⟨tF (a8 0 _ rfl),m3 (a8 1 _ rfl)⟩
theorem zoz{x:cG}(h: ∀d∈hN .cG x,hr jY d)(aa:x.items.length<=40):Da x:=by
 have a8: ∀(i:Nat) (d:aK),(hN .cG x)[i]? =some d->hr jY d:=λi d hi=>h d (zZ4 hi);exact⟨tF (a8 0 _ rfl),Tq (a8 1 _ rfl) aa⟩
theorem UR{x:aY}(h:tE jY ⟨.st .aY,x⟩)(ao:zcX x):oZ x:=by
 have a8: ∀(i:Nat) (d:aK),(hN .aY x)[i]? =some d->hr jY d:=λi d hi=>h d (zZ4 hi);obtain⟨s1,s2,jc,jI,jv,kO,pH,zcZ,zoA⟩:=ao
 exact⟨⟨m3 (a8 0 _ rfl),tF (a8 1 _ rfl),tF (a8 6 _ rfl),m3 (a8 8 _ rfl)⟩,⟨by omega,λy aA=>zou ((p2 (a8 2 _ rfl)).2 y aA) (pH y aA).1 (pH y aA).2⟩,⟨by omega,λy aA=>zcY ((p2 (a8 3 _ rfl)).2 y aA)⟩,
  ⟨by omega,λy aA=>zox ((p2 (a8 4 _ rfl)).2 y aA) (by have:=(zcZ y aA).1;omega) (by have:=(zcZ y aA).2;omega)⟩,⟨by omega,λy aA=>zoy ((p2 (a8 5 _ rfl)).2 y aA)⟩,
  ⟨by omega,λy aA=>zoz ((p2 (a8 7 _ rfl)).2 y aA) (zoA y aA)⟩,by omega,λy aA=>zow ((p2 (a8 9 _ rfl)).2 y aA)⟩
theorem UP{x:aY}(aa:x.members.length<=1048576)(ae:x.eh.length<=1048576):r4 x:=by
 unfold r4;intro v1 v6 v12 eP _ aX;refine⟨λ_ _=>True,trivial,λi _ _ _=>⟨λ_ _=>trivial,λ_ _=>trivial⟩,λ_ _=>?_⟩;unfold aX;refine⟨⟨zU6 _,by show(x.members.length:Int)<_;omega⟩,?_⟩
 intro eG;refine⟨λ_ _=>True,trivial,λ_ _ _ _ _=>trivial,λ_ _=>?_⟩;unfold eG;exact⟨zU6 _,by show(x.eh.length:Int)<_;omega⟩
end Go.aH
