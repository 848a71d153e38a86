/- Loops that look for the first; the checks of attributes are the reference's. Conditions: none. -/
import Derived.Test.YtmkpmgfieagphaaGreatDoorKLf
import Derived.Test.YtmkpmgfieagphaaGreatDoorKTEk
import Derived.Test.YtmkpmgfieagphaaGreatDoorKPn
namespace Go.aK
open Go Go.eK
def ck(q:Nat→Bool)(n:Nat):Option Nat:=(List.range n).find? q
theorem jX{q:Nat→Bool}{n i:Nat}(h:ck q n=some i):i<n∧q i=true∧∀j,j<i→q j=false:=by
 unfold ck at h
 rw[List.find?_range_eq_some]at h
 obtain⟨aa,ae,au⟩:=h
 exact⟨List.mem_range.1 ae,aa,fun j af=>by simpa using au j af⟩
theorem rb{q:Nat→Bool}{n:Nat}(h:ck q n=none): ∀j,j<n→q j=false:=fun j af=>by
 unfold ck at h
 rw[List.find?_range_eq_none]at h
 simpa using h j af
theorem wk{q:Nat→Bool}{n:Nat}(h: ∀j,j<n→q j=false):ck q n=none:=by
 unfold ck
 rw[List.find?_range_eq_none]
 exact fun j af=>by simp[h j af]
theorem y0{q:Nat→Bool}{n i:Nat}(hi:i<n)(aH:q i=true)(hn: ∀j,j<i→q j=false):ck q n=some i:=by
 unfold ck
 rw[List.find?_range_eq_some]
 exact⟨aH,List.mem_range.2 hi,fun j af=>by simp[hn j af]⟩
theorem Cb{q q':Nat→Bool}{n:Nat}(h: ∀j,j<n→q j=q' j):ck q n=ck q' n:=by
 cases aa:ck q' n with
 |none=>exact wk fun j af=>by rw[h j af];exact rb aa j af
 |some i=>
  obtain⟨a,b,c⟩:=jX aa;exact y0 a (by rw[h i a];exact b) fun j af=>by rw[h j (by omega)];exact c j af
theorem YF{R:Type}{p:Nat→Bool}{f:Nat→R}{b:Nat→Unit→Step R Unit}(ad: ∀i c,b i c=bif p i then .ret (f i)else .bq ()):
 ∀(n k:Nat),bn b k n ()=match(List.range' k n).find? p with|some i=>.inl (f i)|none=>.inr ():=by
 intro n
 induction n with
 |zero=>intro k;rfl
 |succ n aX=>
  intro k;unfold bn;rw[ad,List.range'_succ,List.find?_cons]
  cases p k with
  |true=>rfl
  |false=>exact aX (k+1)
theorem iI{R Q:Type}{p:Nat→Bool}{F:Nat→R}{b:Nat→Unit→Step R Unit}{f:R→Q}{g:Unit→Q}{n:Nat}(ad: ∀i u,b i u=bif p i then .ret (F i)else .bq ()):
 Sum.elim f g (bn b 0 n ())=match ck p n with|some i=>f (F i)|none=>g ():=by
 rw[YF ad,←List.range_eq_range']
 show Sum.elim f g (match ck p n with|some i=>.inl (F i)|none=>.inr ())=_
 cases ck p n<;>rfl
theorem PL{R A:Type}{b b':Nat→A→Step R A}: ∀(n k:Nat) (a:A),(∀i a,k≤i→i<k+n→b i a=b' i a)→bn b k n a=bn b' k n a
 |0,_,_,_=>rfl
 |n+1,k,a,h=>by
  unfold bn;rw[h k a (Nat.le_refl _) (by omega)]
  cases b' k a with
  |ret r=>rfl
  |cN bb=>rfl
  |bq bb=>exact PL n (k+1) bb fun i a aa ae=>h i a (by omega) (by omega)
theorem el{R Q A:Type}{f:R→Q}{g g':A→Q}{b b':Nat→A→Step R A}{n:Nat}{a:A}(ad: ∀i a,i<n→b i a=b' i a)(ah: ∀a,g a=g' a):Sum.elim f g (bn b 0 n a)=Sum.elim f g' (bn b' 0 n a):=by
 rw[PL n 0 a fun i a _ h=>ad i a (by omega),show g=g' from funext ah]
theorem p1(a b:ByteArray):cM .eql a b=decide (a=b):=vU a b
theorem PM(a b:ByteArray):cM .neq a b= !decide (a=b):=by
 show(!dE a b)=_
 rw[vU]
theorem PN{q:Nat→Bool}{n i:Nat}(hi:i<n)(aH:q i=true):decide ((match ck q n with|some j=>(j:Int)|none=> -1)<(i:Int))=(ck q i).isSome:=by
 cases h:ck q n with
 |none=>rw[rb h i hi]at aH;cases aH
 |some j=>
  obtain⟨aa,ae,au⟩:=jX h
  by_cases af:j<i
  ·rw[y0 af ae au]
   exact decide_eq_true (by show(j:Int)<(i:Int);omega)
  ·rw[wk fun k aj=>au k (by omega)]
   exact decide_eq_false (by show ¬(j:Int)<(i:Int);omega)
theorem Cc(l:List ByteArray)(x:ByteArray):mS l x=match ck (fun i=>decide (x=l.getD i (aA .str))) l.length with|some i=>(i:Int)|none=> -1:=by
 unfold mS
 dsimp only
 rw[toNat_cast,iI (p:=fun i=>decide (x=l.getD i (aA .str))) (F:=fun i=>(i:Int)) (fun i u=>by simp only[p1,toNat_cast])]
theorem GF(l:List ByteArray)(x:ByteArray):re l x=mS l x:=by
 rw[Cc]
 unfold re
 dsimp only
 rw[toNat_cast,iI (p:=fun i=>decide (l.getD i (aA .str)=x)) (F:=fun i=>(i:Int)) (fun i u=>by simp only[p1,toNat_cast]),Cb (q':=fun i=>decide (x=l.getD i (aA .str))) fun j _=>decide_eq_decide.2 eq_comm]
theorem YG(l:List ByteArray)(x:ByteArray):ur l x=(ck (fun i=>decide (x=l.getD i (aA .str))) l.length).isSome:=by
 unfold ur
 dsimp only
 rw[toNat_cast,iI (p:=fun i=>decide (x=l.getD i (aA .str))) (F:=fun _=>true) (fun i u=>by simp only[p1,toNat_cast];rw[show(decide (l.getD i (aA .str)=x))=decide (x=l.getD i (aA .str))from decide_eq_decide.2 eq_comm])]
 cases ck (fun i=>decide (x=l.getD i (aA .str))) l.length<;>rfl
theorem YH(l:List ByteArray)(x:ByteArray):iJ l x=(ck (fun i=>decide (x=l.getD i (aA .str))) l.length).isSome:=by
 unfold iJ
 rw[Cc]
 cases ck (fun i=>decide (x=l.getD i (aA .str))) l.length with
 |none=>rfl
 |some i=>exact decide_eq_true (by show(i:Int)≥0;omega)
theorem getD_take{α:Type}{l:List α}{i j:Nat}{d:α}(h:j<i):(l.take i).getD j d=l.getD j d:=by
 rw[List.getD_eq_getElem?_getD,List.getD_eq_getElem?_getD,List.getElem?_take,if_pos h]
theorem sE{α:Type}(l:List α)(i:Nat):iK l none (some (i:Int))=l.take i:=rfl
theorem YI{l:List ByteArray}{i:Nat}(hi:i<l.length):decide (p2 l (l.getD i (aA .str))<(i:Int))=ur (iK l none (some (i:Int))) (l.getD i (aA .str)):=by
 unfold p2
 rw[Cc,YG,sE,List.length_take,Nat.min_eq_left (by omega),PN hi (decide_eq_true rfl)]
 rw[Cb (q':=fun j=>decide (l.getD i (aA .str)=(l.take i).getD j (aA .str))) fun j af=>by rw[getD_take af]]
theorem YJ(l:List ByteArray):(bif((decide ((List.length l:Int)<1))||(decide ((List.length l:Int)>64)))then 3 else
    Sum.elim (fun r=>r) (fun _=>0) (bn (fun(i13:Nat) (_:Unit)=>bif(!(jW (List.getD l (Int.toNat (i13:Int)) (aA .str))))then(.ret 10:Step Int Unit)else
      bif(ur (iK l none (some (i13:Int))) (List.getD l (Int.toNat (i13:Int)) (aA .str)))then .ret 9 else .bq ()) 0 (Int.toNat (List.length l:Int)) ():Int⊕Unit))=wj l:=by
  unfold wj;dsimp only;refine congrArg (cond _ 3) ?_
  rw[toNat_cast];refine el (fun i _ hi=>?_) fun _=>rfl
  simp only[toNat_cast,we,wc];rw[YI hi]
theorem GG(a:Attr):p3 a=kY a:=by
 unfold p3 kY sz
 rw[we,wc]
 dsimp only
 rw[YJ]
 have aj:(a.kind != 3)= !(a.kind==3):=rfl
 rw[aj]
 have ad:((!(decide (a.min≥ -1099511627776)&&decide (a.min≤1099511627776))|| !(decide (a.max≥ -1099511627776)&&decide (a.max≤1099511627776)))||decide (a.min>a.max))=((decide (a.min< -1099511627776)||decide (a.max>1099511627776))||decide (a.min>a.max)):=by
  rw[Bool.eq_iff_iff];simp only[Bool.or_eq_true,Bool.not_eq_true',Bool.and_eq_false_iff,decide_eq_false_iff_not,decide_eq_true_eq];omega
 rw[←ad]
 cases a.kind==3<;>cases a.kind==2<;>cases (decide (a.min≥ -1099511627776)&&decide (a.min≤1099511627776))<;>rfl
end Go.aK
namespace Go.aK
open Go Go.eK
theorem YK(v:Int):(Cd v != v)=((decide (v<(-1099511627776)))||(decide (v>1099511627776))):=by
 have e:Cd v=if(1099511627776:Int)<(if(-1099511627776:Int)>v then(-1099511627776:Int)else v)then(1099511627776:Int)else(if(-1099511627776:Int)>v then(-1099511627776:Int)else v):=rfl
 rw[e,Bool.eq_iff_iff]
 simp only[bne_iff_ne,Bool.or_eq_true,decide_eq_true_eq]
 split<;>split<;>omega
theorem GH(a:Attr)(v:cd):wm a v=wo a v:=by
 unfold wm wo
 rw[GG,Gg]
 dsimp only
 generalize (v.kind==2&&(decide (v.n<a.min)||decide (v.n>a.max)))=A
 cases A<;>rfl
theorem PO(x y:List ByteArray):y2 x y=y3 x y:=rfl
theorem GI(x y:List ByteArray):y3 x y=decide (x=y):=by
 unfold y3
 dsimp only
 by_cases h:(x.length:Int)=(y.length:Int)
 ·rw[show((x.length:Int) != (y.length:Int))=false by simpa using h,cond_false,toNat_cast,iI (p:=fun i=>!decide (x.getD i (aA .str)=y.getD i (aA .str))) (F:=fun _=>false) (fun i u=>by simp only[PM,toNat_cast])]
  cases hf:ck (fun i=>!decide (x.getD i (aA .str)=y.getD i (aA .str))) x.length with
  |none=>
   have hf:=rb hf
   refine(decide_eq_true ?_).symm
   refine List.ext_getElem (by omega) fun i aa ae=>?_
   have:=hf i aa
   simpa[List.getD_eq_getElem?_getD,List.getElem?_eq_getElem aa,List.getElem?_eq_getElem ae]using this
  |some i=>
   obtain⟨_,ae,_⟩:=jX hf;refine(decide_eq_false fun e=>?_).symm
   subst e;simp at ae
 ·rw[show((x.length:Int) != (y.length:Int))=true by simpa using h,cond_true]
  exact(decide_eq_false fun e=>h (by rw[e])).symm
theorem YL(x y:Attr):Ce x y=((y.kind==x.kind)&&y2 y.enum x.enum):=by
 unfold Ce
 rw[PO,GI,GI]
 have aa:(x.kind==y.kind)=(y.kind==x.kind):=by rw[Bool.eq_iff_iff];simp only[beq_iff_eq];exact eq_comm
 have ae:decide (x.enum=y.enum)=decide (y.enum=x.enum):=decide_eq_decide.2 eq_comm
 dsimp only
 rw[aa,ae]
 cases y.kind==x.kind<;>rfl
theorem YM(x:cO)(a b:Attr):Cf x a b=Cg x a b:=by
 unfold Cf Cg
 rw[YL]
 simp only[GH]
 cases b.kind==a.kind<;>cases x.kind==1<;>rfl
theorem YN(a:Attr):y4 a ⟨⟨#[]⟩,0,0,0,[],false,false⟩=uu a:=by
 unfold y4 uu
 dsimp only
 rw[PO,GI]
 have h:decide (a.enum=[])=((a.enum.length:Int)==0):=by
  rw[Bool.eq_iff_iff];simp
 rw[h]
 generalize (((cM .eql a.name ⟨#[]⟩&&a.kind==0)&&a.min==0)&&a.max==0)=A
 cases A<;>cases ((a.enum.length:Int)==0)<;>cases a.fB<;>cases a.safety<;>rfl
theorem GJ(c:aJ)(x:ByteArray):oJ c x=match ck (fun i=>decide ((c.attrs.getD i (aA .Attr)).name=x)) c.attrs.length with|some i=>(i:Int)|none=> -1:=by
 unfold oJ
 dsimp only
 rw[toNat_cast,iI (p:=fun i=>decide ((c.attrs.getD i (aA .Attr)).name=x)) (F:=fun i=>(i:Int)) (fun i u=>by simp only[p1,toNat_cast])]
 cases ck (fun i=>decide ((c.attrs.getD i (aA .Attr)).name=x)) c.attrs.length<;>rfl
theorem PQ(c:aJ)(x:ByteArray):sF c x=match ck (fun i=>decide ((c.attrs.getD i (aA .Attr)).name=x)) c.attrs.length with|some i=>(c.attrs.getD i (aA .Attr),true)|none=>(⟨⟨#[]⟩,0,0,0,[],false,false⟩,false):=by
 unfold sF
 dsimp only
 rw[toNat_cast,iI (p:=fun i=>decide ((c.attrs.getD i (aA .Attr)).name=x)) (F:=fun i=>(c.attrs.getD i (aA .Attr),true)) (fun i u=>by simp only[p1,toNat_cast];rfl)]
 cases ck (fun i=>decide ((c.attrs.getD i (aA .Attr)).name=x)) c.attrs.length<;>rfl
theorem PR(c:aJ)(x:ByteArray):uv c x=sF c x:=by
 unfold uv
 rw[GJ,PQ]
 cases ck (fun i=>decide ((c.attrs.getD i (aA .Attr)).name=x)) c.attrs.length with
 |none=>rfl
 |some i=>
  dsimp only;rw[decide_eq_false (show ¬(i:Int)<0 by omega),cond_false,toNat_cast]
theorem YO(c:aJ)(a:Attr)(x:cO):y5 c a x=p4 c a x:=by
 unfold y5 p4
 simp only[PR,YM,←YK]
 cases x.kind==3<;>rfl
theorem YP(c:aJ){k:Nat}(aj:k<c.commands.length):y6 c (k:Int)=rf c (k:Int):=by
 unfold y6 rf
 simp only[we,wc,YO,GG,YN,toNat_cast,sE,List.length_take,Nat.min_eq_left (Nat.le_of_lt aj)]
 refine congrArg (cond _ 10) ?_
 refine el (fun i _ hi=>?_) fun _=>rfl
 rw[getD_take hi]
theorem PS(c:aJ):y7 c=oK c:=by
 unfold y7 oK
 dsimp only
 generalize (((decide ((List.length c.attrs:Int)>12))||(decide ((List.length c.commands:Int)>12)))||(decide ((List.length c.events:Int)>12)))=A
 rw[toNat_cast,iI (p:=fun i=>decide ((List.length ((List.getD c.commands i (aA .Command)).gh):Int)>12)) (F:=fun _=>true) (fun i u=>by simp only[toNat_cast]),iI (p:=fun i=>decide ((List.length ((List.getD c.commands i (aA .Command)).gh):Int)>12)) (F:=fun _=>true) (fun i u=>by simp only[toNat_cast])]
 cases A<;>cases ck (fun i=>decide ((List.length ((List.getD c.commands i (aA .Command)).gh):Int)>12)) c.commands.length<;>rfl
theorem YQ{c:aJ}{i:Nat}(hi:i<c.attrs.length):decide (oJ c ((c.attrs.getD i (aA .Attr)).name)<(i:Int))=(ck (fun j=>decide ((c.attrs.getD j (aA .Attr)).name=(c.attrs.getD i (aA .Attr)).name)) i).isSome:=by
 rw[GJ]
 exact PN hi (decide_eq_true rfl)
theorem GK{α R Q:Type}(nm:α→ByteArray)(l:List α)(n:Nat)(d:α)(x:ByteArray)(r:R)(f:R→Q)(g:Unit→Q):
 Sum.elim f g (bn (fun(j:Nat) (_:Unit)=>bif cM .eql (nm (l.getD j d)) x then .ret r else .bq ()) 0 n ())=bif(ck (fun j=>decide (nm (l.getD j d)=x)) n).isSome then f r else g ():=by
 rw[iI (p:=fun j=>decide (nm (l.getD j d)=x)) (F:=fun _=>r) (fun i u=>by simp only[p1])]
 cases ck (fun j=>decide (nm (l.getD j d)=x)) n<;>rfl
theorem Ch{α R Q:Type}(nm:α→ByteArray)(l:List α)(n:Nat)(d:α)(x:ByteArray)(r:R)(f:R→Q)(g:Unit→Q):
 Sum.elim f g (bn (fun(j:Nat) (_:Unit)=>bif cM .eql (nm ((l.take n).getD j d)) x then .ret r else .bq ()) 0 n ())=bif(ck (fun j=>decide (nm (l.getD j d)=x)) n).isSome then f r else g ():=by
 rw[GK nm (l.take n),Cb (q':=fun j=>decide (nm (l.getD j d)=x)) fun j af=>by rw[getD_take af]]
theorem YR(c:aJ):y8 c=p5 c:=by
 unfold y8 p5
 simp only[we,wc,PS,GG,toNat_cast]
 refine congrArg (cond _ 10) (congrArg (cond _ 3) ?_)
 refine el (fun i _ hi=>?_) fun _=>el (fun i _ hi=>?_) fun _=>el (fun i _ hi=>?_) fun _=>rfl
 ·refine congrArg (cond _ _) ?_
  rw[YQ hi,sE,List.length_take,Nat.min_eq_left (Nat.le_of_lt hi),Ch (fun a:Attr=>a.name)]
 ·rw[YP c hi]
 ·refine congrArg (cond _ _) ?_
  rw[GK (fun s:ByteArray=>s),YH,sE,List.length_take,Nat.min_eq_left (Nat.le_of_lt hi)];rw[Cb (q':=fun j=>decide (c.events.getD i (aA .str)=(c.events.take i).getD j (aA .str))) fun j af=>by rw[getD_take af];exact decide_eq_decide.2 eq_comm]
theorem PT(l:List aJ):y9 l=nJ l:=by
 unfold y9 nJ
 simp only[YR,toNat_cast]
 refine congrArg (cond _ 3) ?_
 refine el (fun i _ hi=>?_) fun _=>rfl
 refine congrArg (cond _ _) ?_
 rw[GK (fun a:aJ=>a.name),sE,List.length_take,Nat.min_eq_left (Nat.le_of_lt hi),Ch (fun a:aJ=>a.name)]
end Go.aK
namespace Go.aK
open Go Go.eK
theorem uw{e:Nat→Int}{b:Nat→Unit→Step Int Unit}{g:Unit→Int}{n:Nat}(ad: ∀i,i<n→b i ()=bif(e i != 0)then .ret (e i)else .bq ()):
 Sum.elim (fun r=>r) g (bn b 0 n ())=0↔(∀i,i<n→e i=0)∧g ()=0:=by
 rw[el (b':=fun i _=>bif(e i != 0)then .ret (e i)else .bq ()) (fun i _ hi=>ad i hi) fun _=>rfl,iI (p:=fun i=>e i != 0) (F:=fun i=>e i) (fun _ _=>rfl)]
 cases h:ck (fun i=>e i != 0) n with
 |none=>
  have h:=rb h
  exact⟨fun ah=>⟨fun i hi=>by simpa using h i hi,ah⟩,fun ah=>ah.2⟩
 |some i=>
  obtain⟨aa,ae,_⟩:=jX h
  have ae:e i≠0:=by simpa using ae
  exact⟨fun he=>absurd he ae,fun he=>absurd (he.1 i aa) ae⟩
theorem lC{c:Bool}{x y:Int}(hx:x≠0)(h:(bif c then x else y)=0):c=false∧y=0:=by
 cases c with
 |true=>exact absurd h hx
 |false=>exact⟨rfl,h⟩
theorem wq{x y:Int}(h:(bif(x != 0)then x else y)=0):x=0∧y=0:=by
 cases hx:(x != 0)with
 |true=>
  rw[hx]at h
  have h:x=0:=h
  rw[h]at hx;simp at hx
 |false=>
  rw[hx]at h;exact⟨by simpa using hx,h⟩
structure p6 (c:aJ):Prop where
 wide:oK c=false
 attrs: ∀i,i<c.attrs.length→kY (c.attrs.getD i (aA .Attr))=0∧(ck (fun j=>decide ((c.attrs.getD j (aA .Attr)).name=(c.attrs.getD i (aA .Attr)).name)) i).isSome=false
 YS: ∀i,i<c.commands.length→rf c (i:Int)=0
theorem YT{c:aJ}(h:p5 c=0):p6 c:=by
 unfold p5 at h
 dsimp only at h
 obtain⟨_,h⟩:=lC (by decide) h
 obtain⟨hw,h⟩:=lC (by decide) h
 simp only[toNat_cast]at h
 obtain⟨aZ,h⟩:=(uw (e:=fun i=>bif(kY (c.attrs.getD i (aA .Attr)) != 0)then kY (c.attrs.getD i (aA .Attr))else bif(ck (fun j=>decide ((c.attrs.getD j (aA .Attr)).name=(c.attrs.getD i (aA .Attr)).name)) i).isSome then 9 else 0) fun i hi=>by
  rw[sE,List.length_take,Nat.min_eq_left (Nat.le_of_lt hi),Ch (fun a:Attr=>a.name)]
  cases aR:(kY (c.attrs.getD i (aA .Attr)) != 0)with
  |true=>simp only[cond_true,aR]
  |false=>
   simp only[cond_false]
   cases (ck (fun j=>decide ((c.attrs.getD j (aA .Attr)).name=(c.attrs.getD i (aA .Attr)).name)) i).isSome<;>rfl).1 h
 obtain⟨hc,_⟩:=(uw (e:=fun i=>rf c (i:Int)) fun i hi=>rfl).1 h
 refine⟨hw,fun i hi=>?_,hc⟩
 obtain⟨aa,ae⟩:=wq (aZ i hi)
 exact⟨aa,(lC (by decide) ae).1⟩
theorem p6.enum{c:aJ}(h:p6 c): ∀a∈c.attrs,a.enum.length≤64:=fun a aZ=>by
 obtain⟨j,af,rfl⟩:=List.mem_iff_getElem.1 aZ
 have:=(h.attrs j af).1
 rw[List.getD_eq_getElem?_getD,List.getElem?_eq_getElem af]at this
 exact Gz this
theorem YU{q:Nat→Bool}{n:Nat}(h:(ck q n).isSome=false): ∀j,j<n→q j=false:=by
 cases hf:ck q n with
 |none=>exact rb hf
 |some i=>rw[hf]at h;cases h
theorem p6.YV{c:aJ}(h:p6 c): ∀d∈c.commands,d.gh.length≤12:=fun d hd=>by
 obtain⟨j,af,rfl⟩:=List.mem_iff_getElem.1 hd
 have hw:=h.wide
 unfold oK at hw
 dsimp only at hw
 rw[toNat_cast,iI (p:=fun i=>decide ((List.length ((List.getD c.commands i (aA .Command)).gh):Int)>12)) (F:=fun _=>true) (fun i u=>by simp only[toNat_cast])]at hw
 cases hf:ck (fun i=>decide ((List.length ((List.getD c.commands i (aA .Command)).gh):Int)>12)) c.commands.length with
 |none=>
  have:=rb hf j af
  rw[List.getD_eq_getElem?_getD,List.getElem?_eq_getElem af]at this
  have:=of_decide_eq_false this
  simp only[Option.getD_some]at this;omega
 |some i=>rw[hf]at hw;cases hw
theorem YW{c:aJ}{k:Nat}(h:rf c (k:Int)=0)(aj:k<c.commands.length):
 (((c.commands.getD k (aA .Command)).param.kind=0∧uu (c.commands.getD k (aA .Command)).param=true)∨kY (c.commands.getD k (aA .Command)).param=0)∧∀i,i<(c.commands.getD k (aA .Command)).gh.length→p4 c (c.commands.getD k (aA .Command)).param ((c.commands.getD k (aA .Command)).gh.getD i (aA .cO))=0:=by
 unfold rf at h
 simp only[toNat_cast]at h
 generalize c.commands.getD k (aA .Command)=d at h⊢
 obtain⟨_,h⟩:=lC (by decide) h
 rw[sE,List.length_take,Nat.min_eq_left (Nat.le_of_lt aj)]at h
 obtain⟨_,h⟩:=(uw (e:=fun i=>bif cM .eql (((c.commands.take k).getD i (aA .Command)).name) d.name then 9 else 0) fun i hi=>by
  cases cM .eql (((c.commands.take k).getD i (aA .Command)).name) d.name<;>rfl).1 h
 have e2: ∀{x:Int},x=Sum.elim (fun r=>r) (fun _=>0) (bn (fun(i9:Nat) (_:Unit)=>bif(p4 c d.param (d.gh.getD i9 (aA .cO)) != 0)then(.ret (p4 c d.param (d.gh.getD i9 (aA .cO))):Step Int Unit)else .bq ()) 0 d.gh.length ())→x=0→∀i,i<d.gh.length→p4 c d.param (d.gh.getD i (aA .cO))=0:=fun hx aL=>by
  rw[hx]at aL;exact((uw (e:=fun i=>p4 c d.param (d.gh.getD i (aA .cO))) fun i hi=>rfl).1 aL).1
 cases ak:(d.param.kind==0)with
 |true=>
  rw[ak,cond_true]at h;obtain⟨aa,ae⟩:=lC (by decide) h
  exact⟨.inl ⟨by simpa using ak,by simpa using aa⟩,e2 rfl ae⟩
 |false=>
  rw[ak,cond_false]at h;obtain⟨aa,ae⟩:=wq h;exact⟨.inr aa,e2 rfl ae⟩
theorem p6.par{c:aJ}(h:p6 c): ∀d∈c.commands,d.param.enum.length≤64:=fun d hd=>by
 obtain⟨j,af,rfl⟩:=List.mem_iff_getElem.1 hd
 have:=(YW (h.YS j af) af).1
 rw[List.getD_eq_getElem?_getD,List.getElem?_eq_getElem af]at this
 simp only[Option.getD_some]at this
 rcases this with⟨_,ae⟩|ae
 ·unfold uu at ae
  simp only[Bool.and_eq_true,beq_iff_eq]at ae;omega
 ·exact Gz ae
theorem Ci{l:List aJ}(h:nJ l=0): ∀i,i<l.length→p6 (l.getD i (aA .aJ))∧∀j,j<i→(l.getD j (aA .aJ)).name≠(l.getD i (aA .aJ)).name:=by
 unfold nJ at h
 dsimp only at h
 obtain⟨_,h⟩:=lC (by decide) h
 simp only[toNat_cast]at h
 obtain⟨aZ,_⟩:=(uw (e:=fun i=>bif(p5 (l.getD i (aA .aJ)) != 0)then p5 (l.getD i (aA .aJ))else bif(ck (fun j=>decide ((l.getD j (aA .aJ)).name=(l.getD i (aA .aJ)).name)) i).isSome then 9 else 0) fun i hi=>by
  rw[sE,List.length_take,Nat.min_eq_left (Nat.le_of_lt hi),Ch (fun a:aJ=>a.name)]
  cases aR:(p5 (l.getD i (aA .aJ)) != 0)with
  |true=>simp only[cond_true,aR]
  |false=>
   simp only[cond_false]
   cases (ck (fun j=>decide ((l.getD j (aA .aJ)).name=(l.getD i (aA .aJ)).name)) i).isSome<;>rfl).1 h
 intro i hi
 obtain⟨aa,ae⟩:=wq (aZ i hi)
 exact⟨YT aa,fun j af=>of_decide_eq_false (YU (lC (by decide) ae).1 j af)⟩
end Go.aK
namespace Go.aK
open Go Go.eK
def Cj(l:List aJ):Prop:=∀i,i<l.length→∀j,j<i→(l.getD j (aA .aJ)).name≠(l.getD i (aA .aJ)).name
theorem Ck{l:List aJ}(h:nJ l=0):Cj l:=fun i hi=>(Ci h i hi).2
theorem YX{l:List aJ}{x:ByteArray}:(hX (l.map fun c=>(c.name,c)) x=none∧∀c∈l,c.name≠x)∨∃(j:Nat) (c:aJ),hX (l.map fun c=>(c.name,c)) x=some c∧l[j]? =some c∧c.name=x∧∀(i:Nat) (d:aJ),i<j→l[i]? =some d→d.name≠x:=by
 induction l with
 |nil=>exact .inl ⟨rfl,by simp⟩
 |cons e r aX=>
  by_cases he:e.name=x
  ·exact .inr ⟨0,e,by simp[hX,he],rfl,he,fun i d hi=>absurd hi (by omega)⟩
  ·rcases aX with⟨aa,ae⟩|⟨j,c,aa,ae,au,aP⟩
   ·exact .inl ⟨by simpa[hX,he]using aa,fun c hc=>by rcases List.mem_cons.1 hc with rfl|hc;exact he;exact ae c hc⟩
   ·refine .inr ⟨j+1,c,by simpa[hX,he]using aa,by simpa using ae,au,fun i d hi hd=>?_⟩
    cases i with
    |zero=>simp at hd;subst hd;exact he
    |succ i=>exact aP i d (by omega) (by simpa using hd)
theorem za{α:Type}{l:List α}{i:Nat}{a d:α}(h:l[i]? =some a):l.getD i d=a:=by
 rw[List.getD_eq_getElem?_getD,h];rfl
theorem PU{α:Type}{l:List α}{i:Nat}{a:α}(h:l[i]? =some a):i<l.length:=(List.getElem?_eq_some_iff.1 h).1
theorem YY(l:List aJ)(x:ByteArray):hX (l.map fun c=>(c.name,c)) x=(ck (fun i=>decide ((l.getD i (aA .aJ)).name=x)) l.length).map fun i=>l.getD i (aA .aJ):=by
 rcases YX (l:=l) (x:=x)with⟨aa,ae⟩|⟨j,c,aa,ae,au,aP⟩
 ·rw[aa,wk fun j af=>decide_eq_false (ae _ (B7 af))]
  rfl
 ·rw[aa,y0 (PU ae) (by rw[za ae];exact decide_eq_true au) fun i hi=>by
   have aq:i<l.length:=Nat.lt_trans hi (PU ae)
   have:=aP i _ hi (List.getElem?_eq_getElem aq)
   rw[za (List.getElem?_eq_getElem aq)]
   exact decide_eq_false this]
  show some c=some (l.getD j (aA .aJ));rw[za ae]
theorem YZ{l:List aJ}{c:aJ}(h: ∀d∈l,d.name≠c.name):ja (l.map fun c=>(c.name,c)) c.name c=(l++[c]).map fun c=>(c.name,c):=by
 induction l with
 |nil=>rfl
 |cons e r aX=>
  have he:e.name≠c.name:=h e (by simp)
  simp only[List.map_cons,List.cons_append,ja,if_neg he,aX fun d hd=>h d (by simp[hd])]
theorem PV{R A:Type}{b:Nat→A→Step R A}(s:Nat→A){n:Nat}(ad: ∀i,i<n→b i (s i)= .bq (s (i+1))): ∀(m k:Nat),k+m=n→bn b k m (s k)= .inr (s n)
 |0,k,h=>by rw[show k=n by omega];rfl
 |m+1,k,h=>by
  unfold bn;rw[ad k (by omega)]
  exact PV s ad m (k+1) (by omega)
theorem Y0{h:Home}(hd:Cj h.bp):kB h=h.bp.map fun c=>(c.name,c):=by
 unfold kB
 dsimp only
 rw[toNat_cast,show([]:List (ByteArray × aJ))=(h.bp.take 0).map fun c=>(c.name,c)from rfl,PV (fun k=>(h.bp.take k).map fun c=>(c.name,c)) (n:=h.bp.length) (fun i hi=>?_) _ 0 (by omega)]
 ·show(h.bp.take h.bp.length).map _=_
  rw[List.take_length]
 ·rw[toNat_cast]
  show Step.bq (ja ((h.bp.take i).map fun c=>(c.name,c)) (h.bp.getD i (aA .aJ)).name (h.bp.getD i (aA .aJ)))=_;rw[YZ fun d hm=>?_]
  ·rw[List.take_succ_eq_append_getElem hi,za (List.getElem?_eq_getElem hi)]
  ·obtain⟨j,af,Y1⟩:=XC.1 hm
   have:=hd i hi j af
   rw[za Y1]at this;exact this
theorem look_eq{h:Home}(hd:Cj h.bp)(x:ByteArray):jF .str (kB h) x=(ck (fun i=>decide ((h.bp.getD i (aA .aJ)).name=x)) h.bp.length).map fun i=>h.bp.getD i (aA .aJ):=by
 rw[Y0 hd]
 exact YY _ _
theorem wu(h:Home)(x:ByteArray):lD h x=match ck (fun i=>decide ((h.bp.getD i (aA .aJ)).name=x)) h.bp.length with|some i=>(i:Int)|none=> -1:=by
 unfold lD
 dsimp only
 rw[toNat_cast,iI (p:=fun i=>decide ((h.bp.getD i (aA .aJ)).name=x)) (F:=fun i=>(i:Int)) (fun i u=>by simp only[p1,toNat_cast])]
 cases ck (fun i=>decide ((h.bp.getD i (aA .aJ)).name=x)) h.bp.length<;>rfl
theorem Y2{h:Home}(hd:Cj h.bp)(d:bu):rh h d=sG d (kB h):=by
 unfold rh sG
 dsimp only
 refine congrArg (cond _ 3) ?_
 refine el (fun i a _=>?_) fun _=>rfl
 rw[look_eq hd,wu,GF]
 unfold p2
 rw[toNat_cast]
 cases hf:ck (fun j=>decide ((h.bp.getD j (aA .aJ)).name=d.bp.getD i (aA .str))) h.bp.length with
 |none=>rfl
 |some j=>
  dsimp only;rw[decide_eq_false (show ¬(j:Int)<0 by omega),toNat_cast]
  rfl
theorem Y3{q:Nat→Bool}{n:Nat}:(ck q (n+1)).isSome=((ck q n).isSome||q n):=by
 cases h:ck q n with
 |some i=>
  obtain⟨aa,ae,au⟩:=jX h;rw[y0 (by omega) ae au]
  rfl
 |none=>
  have h:=rb h
  cases aH:q n with
  |true=>rw[y0 (Nat.lt_succ_self n) aH h];rfl
  |false=>
   rw[wk fun j af=>?_]
   ·rfl
   ·by_cases mT:j=n
    ·rw[mT];exact aH
    ·exact h j (by omega)
theorem Y4{K V:Type}[DecidableEq K](l:List (K × V))(k x:K)(v:V):hX (ja l k v) x=if k=x then some v else hX l x:=by
 induction l with
 |nil=>simp[ja,hX]
 |cons p r aX=>
  obtain⟨q,w⟩:=p
  by_cases aH:q=k
  ·subst aH
   by_cases hx:q=x<;>simp[ja,hX,hx]
  ·by_cases hx:q=x
   ·subst hx
    simp[ja,hX,aH,Ne.symm aH]
   ·simp only[ja,if_neg aH,hX,if_neg hx,aX]
theorem PW{R A:Type}{b:Nat→A→Step R A}{c:Nat→Unit→Step R Unit}{n:Nat}(I:Nat→A→Prop)
 (h: ∀k a,k<n→I k a→(∃r,b k a= .ret r∧c k ()= .ret r)∨(∃bb,b k a= .bq bb∧c k ()= .bq ()∧I (k+1) bb)):
 ∀(m k:Nat) (a:A),k+m=n→I k a→(∃r,bn b k m a= .inl r∧bn c k m ()= .inl r)∨(∃bb,bn b k m a= .inr bb∧bn c k m ()= .inr ())
 |0,k,a,_,_=>.inr ⟨a,rfl,rfl⟩
 |m+1,k,a,aj,aZ=>by
  rcases h k a (by omega) aZ with⟨r,aa,ae⟩|⟨bb,aa,ae,au⟩
  ·exact .inl ⟨r,by simp only[bn,aa],by simp only[bn,ae]⟩
  ·have:=PW I h m (k+1) bb (by omega) au
   simpa only[bn,aa,ae]using this
theorem Y5(d:bu):wv d= !((((((decide (d.id<1))||(decide (d.id>250)))||(decide (d.oL<0)))||(decide (d.oL>255)))||((!d.oM)&&(d.kZ != 0)))||(d.oM&&((decide (d.kZ<4))||(decide (d.kZ>3600))))):=by
 unfold wv
 rw[Bool.eq_iff_iff]
 cases d.oM<;>simp only[cond_eq_ite]<;>split<;>simp_all<;>omega
theorem Cl(h:Home):p7 h=fS h:=by
 unfold p7 fS
 rw[PT]
 dsimp only
 cases aa:(nJ h.bp != 0)with
 |true=>rfl
 |false=>
  have hd:=Ck (nI aa)
  simp only[cond_false];refine congrArg (cond _ 3) ?_
  rw[toNat_cast]
  have key:=PW (n:=h.bl.length) (fun k a=>∀x:Int,(hX a x).getD false=(ck (fun j=>decide ((h.bl.getD j (aA .bu)).hg=x)) k).isSome) (b:=fun(i8:Nat) (aV:(List (Int × Bool)))=>
   bif(!(wv (h.bl.getD i8 (aA .bu))))then Step.ret (2:Int)else bif((decide ((i8:Int)>0))&&(decide ((h.bl.getD i8 (aA .bu)).id≤((List.getD h.bl (Int.toNat (IntKind.wrap .i64 ((i8:Int)-(1:Int)))) (aA .bu)).id))))then .ret 14
   else bif((jF (.int .u64) aV (h.bl.getD i8 (aA .bu)).hg).getD false)then .ret 9 else bif(!(iq (h.bl.getD i8 (aA .bu)).room))then .ret 10 else bif(sG (h.bl.getD i8 (aA .bu)) (kB h) != 0)then .ret (sG (h.bl.getD i8 (aA .bu)) (kB h))else .bq (sH (.int .u64) aV (h.bl.getD i8 (aA .bu)).hg true))
   (c:=fun(i5:Nat) (_:Unit)=>bif(p8 h (i5:Int) != 0)then .ret (p8 h (i5:Int))else .bq ()) ?_ h.bl.length 0 ([]:List (Int × Bool)) (by omega) (fun x=>rfl)
  ·rcases key with⟨r,b5,a2⟩|⟨bb,b5,a2⟩
   ·simp only[toNat_cast]
    rw[b5,a2];rfl
   ·simp only[toNat_cast]
    rw[b5,a2];rfl
  ·intro k a aj bV
   unfold p8;dsimp only;rw[toNat_cast];generalize Y6:h.bl.getD k (aA .bu)=d;rw[Y5,Bool.not_not,we,wc,Y2 hd];generalize ((((((decide (d.id<1))||(decide (d.id>250)))||(decide (d.oL<0)))||(decide (d.oL>255)))||((!d.oM)&&(d.kZ != 0)))||(d.oM&&((decide (d.kZ<4))||(decide (d.kZ>3600)))))=A
   have hW:decide ((List.getD h.bl (Int.toNat (IntKind.wrap .i64 ((k:Int)-(1:Int)))) (aA .bu)).id≥d.id)=decide (d.id≤(List.getD h.bl (Int.toNat (IntKind.wrap .i64 ((k:Int)-(1:Int)))) (aA .bu)).id):=rfl
   rw[hW];generalize (decide ((k:Int)>0)&&decide (d.id≤(List.getD h.bl (Int.toNat (IntKind.wrap .i64 ((k:Int)-(1:Int)))) (aA .bu)).id))=O
   have e2:(jF (.int .u64) a d.hg).getD false=(ck (fun j=>decide ((h.bl.getD j (aA .bu)).hg=d.hg)) k).isSome:=bV d.hg
   rw[e2,iI (p:=fun j=>decide ((h.bl.getD j (aA .bu)).hg=d.hg)) (F:=fun _=>(9:Int)) (fun i u=>by simp only[toNat_cast];rfl)]
   have step: ∀x:Int,(hX (ja (K:=Int) a d.hg true) x).getD false=(ck (fun j=>decide ((h.bl.getD j (aA .bu)).hg=x)) (k+1)).isSome:=fun x=>by
    rw[Y4,Y3,Y6]
    by_cases hx:d.hg=x
    ·rw[if_pos hx,decide_eq_true hx,Bool.or_true]
     rfl
    ·rw[if_neg hx,decide_eq_false hx,Bool.or_false]
     exact bV x
   cases A with
   |true=>exact .inl ⟨2,rfl,rfl⟩
   |false=>
    cases O with
    |true=>exact .inl ⟨14,rfl,rfl⟩
    |false=>
     cases ck (fun j=>decide ((h.bl.getD j (aA .bu)).hg=d.hg)) k with
     |some j=>exact .inl ⟨9,rfl,rfl⟩
     |none=>
      cases valid d.room with
      |false=>exact .inl ⟨10,rfl,rfl⟩
      |true=>
       cases aR:(sG d (kB h) != 0)with
       |true=>exact .inl ⟨_,rfl,by simp only[Bool.not_true,cond_false,cond_true,aR]⟩
       |false=>exact .inr ⟨_,rfl,by simp only[Bool.not_true,cond_false,aR],step⟩
end Go.aK
namespace Go.aK
open Go Go.eK
theorem wx{h:Home}(aL:fS h=0):nJ h.bp=0:=by
 unfold fS at aL
 exact(wq aL).1
theorem Y7{h:Home}(aL:fS h=0)(x:ByteArray): ∀a∈((jF .str (kB h) x).getD (aA .aJ)).attrs,a.enum.length≤64:=by
 rw[look_eq (Ck (wx aL))]
 cases hf:ck (fun i=>decide ((h.bp.getD i (aA .aJ)).name=x)) h.bp.length with
 |none=>exact fun a aZ=>by cases aZ
 |some i=>exact(Ci (wx aL) i (jX hf).1).1.enum
theorem Cm(h:Home)(x:Int):l9 h x=bif(fS h != 0)then(⟨0,0,0,false,0,⟨#[]⟩,[]⟩,false)else match ck (fun i=>(h.bl.getD i (aA .bu)).id==x) h.bl.length with|some i=>(h.bl.getD i (aA .bu),true)|none=>(⟨0,0,0,false,0,⟨#[]⟩,[]⟩,false):=by
 unfold l9
 dsimp only
 rw[toNat_cast,iI (p:=fun i=>(h.bl.getD i (aA .bu)).id==x) (F:=fun i=>(h.bl.getD i (aA .bu),true)) (fun i u=>by simp only[toNat_cast])]
 refine congrArg (cond _ _) ?_
 cases ck (fun i=>(h.bl.getD i (aA .bu)).id==x) h.bl.length<;>rfl
theorem Y8{h:Home}{x:Int}(ae:(l9 h x).2=true):fS h=0:=by
 rw[Cm]at ae
 cases aR:(fS h != 0)with
 |true=>rw[aR]at ae;cases ae
 |false=>exact nI aR
theorem PX(h:Home)(k:dh):Cn h k:=by
 have key: ∀v6:Int,(((!(l9 h k.dev).2)||(decide (v6<0)))=false→yX ((jF .str (kB h) k.dk).getD (aA .aJ)) k.attr):=fun v6 aw=>by
  simp only[Bool.or_eq_false_iff,Bool.not_eq_false']at aw;exact PJ (Y7 (Y8 aw.1) _)
 exact⟨GD _ _,fun _=>key _,fun _=>key _⟩
theorem Y9(h:Home)(q:bs):Co h q:=by
 unfold Co
 repeat' (first|exact PX _ _|exact Gw _ _|intro _|refine And.intro ?_ ?_)
theorem Za(h:Home)(x:Int)(n:ByteArray):GL h x n:=by
 refine⟨fun _ _=>True,trivial,fun i _ hi _=>⟨fun _=>⟨fun _=>?_,fun _=>trivial⟩,fun _=>⟨fun _=>?_,fun _=>trivial⟩⟩,fun _ _=>?_⟩
 all_goals
  exact fun _=>⟨fun _ _=>True,trivial,fun i _ hi _=>⟨fun _ _=>⟨by omega,by rw[toNat_cast]at hi;omega⟩,fun _=>trivial⟩,fun _ _ h=>absurd (of_decide_eq_false h) (by decide)⟩
theorem Zb{c:aJ}(hc:p6 c)(x:ByteArray):GM c x:=by
 refine⟨fun _ _=>True,trivial,fun i _ hi _=>⟨fun _=>?_,fun _=>trivial⟩⟩
 rw[toNat_cast]at hi
 have hm:=B7 (d:=aA .Command) hi
 rw[toNat_cast]
 exact⟨Gu (by have:=hc.par _ hm;omega),Yw (by have:=hc.YV _ hm;omega)⟩
noncomputable def sI(h:Home)(x:Int)(n:ByteArray):Nat→Bool:=fun i=>((h.bl.getD i (aA .bu)).id==x)&&iJ (h.bl.getD i (aA .bu)).bp n
theorem PY(h:Home)(x:Int)(n:ByteArray):ri h x n=bif(ck (sI h x n) h.bl.length).isSome then(match ck (fun i=>decide ((h.bp.getD i (aA .aJ)).name=n)) h.bp.length with|some i=>(h.bp.getD i (aA .aJ),true)|none=>(⟨⟨#[]⟩,[],[],[]⟩,false))else(⟨⟨#[]⟩,[],[],[]⟩,false):=by
  unfold ri;dsimp only;rw[toNat_cast,toNat_cast]
  have k0: ∀v3:Int,0≤v3→(bif !(decide (v3≥0))then((⟨⟨#[]⟩,[],[],[]⟩:aJ),false)else Sum.elim (fun r=>r) (fun _=>bif decide ((-1:Int)<0)then(⟨⟨#[]⟩,[],[],[]⟩,false)else(h.bp.getD (Int.toNat (-1)) (aA .aJ),true))
      (bn (fun(i7:Nat) (_:Unit)=>bif(cM .eql ((List.getD h.bp (Int.toNat (i7:Int)) (aA .aJ)).name) n)then(.ret (bif decide ((i7:Int)<0)then(⟨⟨#[]⟩,[],[],[]⟩,false)else(h.bp.getD (Int.toNat (i7:Int)) (aA .aJ),true)):Step (aJ × Bool) Unit)else .bq ()) 0 h.bp.length ()))=(match ck (fun i=>decide ((h.bp.getD i (aA .aJ)).name=n)) h.bp.length with|some i=>(h.bp.getD i (aA .aJ),true)|none=>(⟨⟨#[]⟩,[],[],[]⟩,false)):=fun v3 au=>by
    rw[decide_eq_true au,iI (p:=fun i=>decide ((h.bp.getD i (aA .aJ)).name=n)) (F:=fun i=>(h.bp.getD i (aA .aJ),true)) (fun i u=>by
      simp only[p1,toNat_cast]
      rw[decide_eq_false (show ¬(i:Int)<0 by omega),cond_false])]
    cases ck (fun i=>decide ((h.bp.getD i (aA .aJ)).name=n)) h.bp.length<;>rfl
  rw[iI (p:=sI h x n) (F:=fun _=>(match ck (fun i=>decide ((h.bp.getD i (aA .aJ)).name=n)) h.bp.length with|some i=>(h.bp.getD i (aA .aJ),true)|none=>(⟨⟨#[]⟩,[],[],[]⟩,false))) (fun i u=>by
    unfold sI;simp only[toNat_cast]
    cases (h.bl.getD i (aA .bu)).id==x with
    |false=>rfl
    |true=>
      simp only[cond_true,Bool.true_and]
      cases iJ (h.bl.getD i (aA .bu)).bp n with
      |false=>rfl
      |true=>
        simp only[cond_true]
        have:=k0 (i:Int) (by omega)
        simp only[toNat_cast]at this
        rw[this])]
  cases ck (sI h x n) h.bl.length<;>rfl
theorem Zc{h:Home}{x:Int}{n:ByteArray}(aL:fS h=0)(ae:(ri h x n).2=true):p6 (ri h x n).1:=by
 rw[PY]at ae⊢
 cases aa:(ck (sI h x n) h.bl.length).isSome with
 |false=>rw[aa]at ae;cases ae
 |true=>
  rw[aa]at ae;simp only[cond_true]at ae⊢
  cases hf:ck (fun i=>decide ((h.bp.getD i (aA .aJ)).name=n)) h.bp.length with
  |none=>rw[hf]at ae;cases ae
  |some i=>exact(Ci (wx aL) i (jX hf).1).1
theorem Zd{h:Home}(aL:fS h=0)(q:bs):GN h q:=by
 refine⟨Za _ _ _,fun ae=>⟨Zb (Zc aL ?_) _,fun _ _=>Gw _ _⟩⟩
 cases au:(ri h q.key.dev q.key.dk).2 with
 |true=>rfl
 |false=>rw[au]at ae;cases ae
theorem PZ{h:Home}(aL:fS h=0)(q:bs):Cp h q:=by
 unfold Cp
 repeat' (first|exact Y9 _ _|exact Zd aL _|exact q9 _|intro _|refine And.intro ?_ ?_)
theorem OQ(h:Home)(q:bs):Cq h q:=by
 refine⟨GC h,fun aL _ _=>⟨fun _ _=>PZ (nI aL) q,fun _ _=>PZ (nI aL) q⟩⟩
end Go.aK
namespace Go.aK
open Go Go.eK
theorem Cr(a:Attr):ux a:=by
 unfold ux
 repeat' (first|exact trivial|exact sC _|(refine Exists.intro (fun _ _=>True) (And.intro trivial ?_);intro i _ hi _;refine⟨sC _,fun _=>⟨uq (by omega) (by rw[toNat_cast]at hi;omega),fun _=>trivial⟩⟩)|intro _|refine And.intro ?_ ?_)
theorem P0(x y:List ByteArray):Cs x y:=PK x y
theorem Ze(a b:Attr):GO a b:=fun _=>P0 _ _
theorem P1(c:aJ)(x:ByteArray):Ct c x:=by
 intro h
 have h:decide (oJ c x<0)=false:=h
 show 0≤oJ c x∧oJ c x<(c.attrs.length:Int)
 rw[GJ]at h⊢
 cases hf:ck (fun i=>decide ((c.attrs.getD i (aA .Attr)).name=x)) c.attrs.length with
 |none=>rw[hf]at h;cases h
 |some i=>
  have:=(jX hf).1
  dsimp only;omega
theorem GQ(a:Attr)(v:cd):zb a v:=⟨Cr a,fun _=>Cr a⟩
theorem Zf(x:cO)(a b:Attr):Cu x a b:=by
 unfold Cu
 repeat' (first|exact GQ _ _|exact P0 _ _|intro _|refine And.intro ?_ ?_)
theorem Zg(c:aJ)(a:Attr)(x:cO):Cv c a x:=by
 unfold Cv
 repeat' (first|exact P1 _ _|exact Zf _ _ _|intro _|refine And.intro ?_ ?_)
theorem Zh{c:aJ}{k:Nat}(aj:k<c.commands.length)(ad:k<1000000):GR c (k:Int):=by
 refine⟨⟨by omega,by omega⟩,sC _,fun _=>⟨⟨by omega,by omega⟩,⟨fun _ _=>True,trivial,fun i _ hi _=>⟨⟨by omega,?_⟩,fun _=>trivial⟩,fun _ _=>?_⟩⟩⟩
 ·rw[toNat_cast]at hi
  omega
 ·repeat' (first|exact trivial|exact Cr _|exact Ze _ _|exact Zg _ _ _|intro _|refine And.intro ?_ ?_|refine Exists.intro (fun _ _=>True) (And.intro trivial ?_))
theorem Zi{c:aJ}(h:oK c=false):c.commands.length≤12∧c.events.length≤12:=by
 unfold oK at h
 dsimp only at h
 rw[toNat_cast,iI (p:=fun i=>decide ((List.length ((List.getD c.commands i (aA .Command)).gh):Int)>12)) (F:=fun _=>true) (fun i u=>by simp only[toNat_cast])]at h
 cases hf:ck (fun i=>decide ((List.length ((List.getD c.commands i (aA .Command)).gh):Int)>12)) c.commands.length with
 |none=>
  rw[hf]at h;simp only[Bool.or_eq_false_iff,decide_eq_false_iff_not]at h;omega
 |some i=>rw[hf]at h;cases h
theorem Zj(c:aJ):GU c:=by
 refine⟨sC _,fun _ hw=>?_⟩
 rw[PS]at hw
 obtain⟨aa,ae⟩:=Zi hw
 refine⟨fun _ _=>True,trivial,fun i _ hi _=>⟨Cr _,fun _ _=>trivial⟩,fun _ _=>⟨fun _ _=>True,trivial,fun i _ hi _=>⟨Zh (by rw[toNat_cast]at hi;omega) (by rw[toNat_cast]at hi;omega),fun _=>trivial⟩,fun _ _=>⟨fun _ _=>True,trivial,fun i _ hi _=>⟨sC _,fun _=>⟨⟨by omega,by rw[toNat_cast]at hi;omega⟩,⟨fun _ _=>True,trivial,fun j _ af _=>⟨⟨by omega,?_⟩,fun _=>trivial⟩,fun _ _=>trivial⟩⟩⟩⟩⟩⟩
 rw[toNat_cast]at hi af
 omega
theorem Zk(l:List aJ):GV l:=by
 refine fun aq=>⟨fun _ _=>True,trivial,fun i _ hi _=>⟨Zj _,fun _=>⟨⟨by omega,?_⟩,⟨fun _ _=>True,trivial,fun j _ af _=>⟨⟨by omega,?_⟩,fun _=>trivial⟩,fun _ _=>trivial⟩⟩⟩⟩
 ·have aq:=of_decide_eq_false aq
  rw[toNat_cast]at hi;omega
 ·rw[toNat_cast]at hi af
  omega
theorem P2{h:Home}(ad:h.bp.length≤1000000)(x:ByteArray):Cw h x:=by
 show 0≤(h.bp.length:Int)∧(h.bp.length:Int)<9223372036854775808
 omega
theorem Zl{h:Home}{x:ByteArray}(aw:decide (lD h x<0)=false):0≤lD h x∧lD h x<(h.bp.length:Int):=by
 rw[wu]at aw⊢
 cases hf:ck (fun i=>decide ((h.bp.getD i (aA .aJ)).name=x)) h.bp.length with
 |none=>rw[hf]at aw;cases aw
 |some i=>
  have:=(jX hf).1
  dsimp only;omega
theorem Zm{h:Home}(ad:h.bp.length≤1000000)(d:bu):GX h d:=
 fun _=>⟨fun _ _=>True,trivial,fun _ _ _ _=>⟨P2 ad _,fun aw _=>⟨Zl aw,trivial⟩⟩⟩
theorem Zn{h:Home}(ad:h.bp.length≤1000000){k:Nat}(aj:k<h.bl.length)(P3:k<1000000):GY h (k:Int):=by
 refine⟨⟨by omega,by omega⟩,fun _=>⟨fun aw=>?_,fun _=>⟨⟨by omega,by omega⟩,⟨fun _ _=>True,trivial,fun i _ hi _=>⟨⟨by omega,by rw[toNat_cast]at hi;omega⟩,fun _=>trivial⟩,fun _ _=>⟨sC _,fun _=>Zm ad _⟩⟩⟩⟩⟩
 have aw:=of_decide_eq_true aw
 show 0≤IntKind.wrap .i64 ((k:Int)-1)∧IntKind.wrap .i64 ((k:Int)-1)<(h.bl.length:Int)
 rw[sD (by omega) (by omega)]
 omega
theorem Zo{l:List aJ}(h:nJ l=0):l.length≤256:=by
 unfold nJ at h
 dsimp only at h
 have:=of_decide_eq_false (lC (by decide) h).1
 omega
theorem P4(h:Home):Cx h:=by
 refine⟨Zk _,fun aa au=>⟨fun _ _=>True,trivial,fun i _ hi _=>⟨?_,fun _=>trivial⟩⟩⟩
 have aa:=nI aa
 rw[PT]at aa
 have au:=of_decide_eq_false au
 rw[toNat_cast]at hi
 exact Zn (by have:=Zo aa;omega) hi (by omega)
theorem P5(h:Home)(x:Int):p9 h x=match ck (fun i=>(h.bl.getD i (aA .bu)).id==x) h.bl.length with|some i=>(i:Int)|none=> -1:=by
 unfold p9
 dsimp only
 rw[toNat_cast,iI (p:=fun i=>(h.bl.getD i (aA .bu)).id==x) (F:=fun i=>(i:Int)) (fun i u=>by simp only[toNat_cast])]
 cases ck (fun i=>(h.bl.getD i (aA .bu)).id==x) h.bl.length<;>rfl
theorem GZ{h:Home}(aL:fS h=0): ∀k,k<h.bl.length→p8 h (k:Int)=0:=by
 rw[←Cl]at aL
 unfold p7 at aL
 dsimp only at aL
 obtain⟨_,aL⟩:=wq aL
 obtain⟨_,aL⟩:=lC (by decide) aL
 simp only[toNat_cast]at aL
 exact((uw (e:=fun i=>p8 h (i:Int)) fun i hi=>rfl).1 aL).1
theorem G0{h:Home}(aL:fS h=0):h.bl.length≤20:=by
 unfold fS at aL
 dsimp only at aL
 obtain⟨_,aL⟩:=wq aL
 have:=of_decide_eq_false (lC (by decide) aL).1
 omega
theorem G1{h:Home}{k:Nat}(ad:k<1000000)(aR:p8 h (k:Int)=0):(0<k→(h.bl.getD (k-1) (aA .bu)).id<(h.bl.getD k (aA .bu)).id)∧rh h (h.bl.getD k (aA .bu))=0:=by
 unfold p8 at aR
 simp only[toNat_cast]at aR
 obtain⟨_,aR⟩:=lC (by decide) aR
 obtain⟨an,aR⟩:=lC (by decide) aR
 obtain⟨_,aR⟩:=(uw (e:=fun i=>bif((h.bl.getD i (aA .bu)).hg==(h.bl.getD k (aA .bu)).hg)then 9 else 0) fun i hi=>by
  cases ((h.bl.getD i (aA .bu)).hg==(h.bl.getD k (aA .bu)).hg)<;>rfl).1 aR
 obtain⟨_,aR⟩:=lC (by decide) aR
 refine⟨fun aj=>?_,aR⟩
 rw[decide_eq_true (show(k:Int)>0 by omega),Bool.true_and]at an
 have an:=of_decide_eq_false an
 rw[sD (by omega) (by omega),show((k:Int)-1).toNat=k-1 by omega]at an
 omega
theorem G2{h:Home}(aL:fS h=0): ∀j i,j<h.bl.length→i<j→(h.bl.getD i (aA .bu)).id<(h.bl.getD j (aA .bu)).id
 |0,_,_,h=>by omega
 |j+1,i,af,hi=>by
  have aq:=G0 aL
  have aa:=(G1 (by omega) (GZ aL (j+1) af)).1 (by omega)
  rw[Nat.add_sub_cancel]at aa
  by_cases oN:i=j
  ·rw[oN];exact aa
  ·have:=G2 aL j i (by omega) (by omega)
   omega
theorem P6{A:Type}{b:Nat→A→Step Int A}{g:A→Int}{n:Nat}(ad: ∀i a,(∃r,b i a= .ret r∧r≠0)∨∃bb,b i a= .bq bb): ∀m k a,k+m=n→Sum.elim (fun r=>r) g (bn b k m a)=0→∀i,k≤i→i<n→∃a bb,b i a= .bq bb
 |0,k,_,aj,_,i,aa,ae=>by omega
 |m+1,k,a,aj,aL,i,aa,ae=>by
  unfold bn at aL
  rcases ad k a with⟨r,ag,b3⟩|⟨bb,aZ⟩
  ·rw[ag]at aL
   exact absurd aL b3
  ·rw[aZ]at aL
   by_cases rj:i=k
   ·subst rj
    exact⟨a,bb,aZ⟩
   ·exact P6 ad m (k+1) bb (by omega) aL i (by omega) ae
theorem Zp{h:Home}{d:bu}(aR:rh h d=0): ∀i,i<d.bp.length→∃j,ck (fun j=>decide ((h.bp.getD j (aA .aJ)).name=d.bp.getD i (aA .str))) h.bp.length=some j:=by
 unfold rh at aR
 simp only[toNat_cast]at aR
 obtain⟨_,aR⟩:=lC (by decide) aR
 intro i hi
 obtain⟨a,bb,aZ⟩:=P6 (n:=d.bp.length) (fun i a=>by
  cases decide (lD h (d.bp.getD i (aA .str))<0)with
  |true=>exact .inl ⟨8,rfl,by decide⟩
  |false=>
   cases decide (re d.bp (d.bp.getD i (aA .str))<(i:Int))with
   |true=>exact .inl ⟨9,rfl,by decide⟩
   |false=>exact .inr ⟨_,rfl⟩) _ 0 _ (by omega) aR i (by omega) hi
 rw[wu]at aZ
 cases hf:ck (fun j=>decide ((h.bp.getD j (aA .aJ)).name=d.bp.getD i (aA .str))) h.bp.length with
 |some j=>exact⟨j,rfl⟩
 |none=>
  rw[hf]at aZ;cases aZ
theorem G3{h:Home}(aL:fS h=0){i:Nat}(hi:i<h.bl.length){n:ByteArray}(hm:decide (mS (h.bl.getD i (aA .bu)).bp n<0)=false): ∃j,ck (fun j=>decide ((h.bp.getD j (aA .aJ)).name=n)) h.bp.length=some j:=by
 have aq:=G0 aL
 have hc:=Zp (G1 (by omega) (GZ aL i hi)).2
 rw[Cc]at hm
 cases hf:ck (fun k=>decide (n=(h.bl.getD i (aA .bu)).bp.getD k (aA .str))) (h.bl.getD i (aA .bu)).bp.length with
 |none=>rw[hf]at hm;cases hm
 |some k=>
  obtain⟨aa,ae,_⟩:=jX hf;rw[of_decide_eq_true ae];exact hc k aa
theorem P7{h:Home}(ad:h.bp.length≤1000000)(hd:h.bl.length≤1000000)(x:Int)(n:ByteArray):Cy h x n:=by
 refine⟨⟨by omega,by omega⟩,?_⟩
 intro v4
 cases aw:v4 with
 |true=>exact⟨fun _=>⟨(fun h=>by cases h),fun _ h=>(by cases h),fun h=>(by cases h)⟩,fun h=>by cases h⟩
 |false=>
  have aw:decide (p9 h x<0)=false:=aw
  have ag:0≤p9 h x∧p9 h x<(h.bl.length:Int):=by
   rw[P5]at aw⊢
   cases hf:ck (fun i=>(h.bl.getD i (aA .bu)).id==x) h.bl.length with
   |none=>rw[hf]at aw;cases aw
   |some i=>
    have:=(jX hf).1
    dsimp only;omega
  refine⟨(fun h=>by cases h),fun _=>⟨P4 h,fun dZ=>ag,fun dZ gE=>?_,fun dZ gE=>?_⟩⟩
  ·rw[dZ]at gE
   cases gE
  ·refine⟨P2 ad _,?_⟩
   have dZ:(false||(p7 h != 0))=false:=dZ
   rw[dZ]at gE
   have aL:p7 h=0:=by simpa using dZ
   rw[Cl]at aL
   have gE:decide (re (h.bl.getD (Int.toNat (p9 h x)) (aA .bu)).bp n<0)=false:=gE
   rw[GF]at gE;obtain⟨j,af⟩:=G3 aL (i:=Int.toNat (p9 h x)) (by omega) gE
   show 0≤lD h n∧lD h n<(h.bp.length:Int);rw[wu,af]
   have:=(jX af).1
   dsimp only;omega
theorem Zq{h:Home}(ad:h.bp.length≤1000000)(hd:h.bl.length≤1000000)(k:dh):G4 h k:=⟨P7 ad hd _ _,fun _=>P1 _ _⟩
theorem Zr{h:Home}(ad:h.bp.length≤1000000)(hd:h.bl.length≤1000000)(q:bs):G5 h q:=⟨Zq ad hd _,fun _ _ _=>GQ _ _⟩
theorem Zs{h:Home}(ad:h.bp.length≤1000000)(hd:h.bl.length≤1000000)(q:bs):G6 h q:=⟨P7 ad hd _ _,fun _ _ _=>GQ _ _⟩
theorem Xy{h:Home}(ad:h.bp.length≤1000000)(hd:h.bl.length≤1000000)(q:bs):Cz h q:=by
 unfold Cz
 repeat' (first|exact trivial|exact P4 _|exact Zr ad hd _|exact Zs ad hd _|exact sC _|intro _|refine And.intro ?_ ?_)
end Go.aK
namespace Go.aK
open Go Go.eK
theorem P8(h:Home)(x:Int)(n:ByteArray):sJ h x n=bif(fS h != 0)then(⟨⟨#[]⟩,[],[],[]⟩,false)else match ck (fun i=>(h.bl.getD i (aA .bu)).id==x) h.bl.length with
 |none=>(⟨⟨#[]⟩,[],[],[]⟩,false)
 |some i=>bif decide (mS (h.bl.getD i (aA .bu)).bp n<0)then(⟨⟨#[]⟩,[],[],[]⟩,false)else(h.bp.getD (Int.toNat (lD h n)) (aA .aJ),true):=by
 unfold sJ
 rw[P5,Cl]
 dsimp only
 cases hf:ck (fun i=>(h.bl.getD i (aA .bu)).id==x) h.bl.length with
 |none=>
  cases fS h != 0<;>rfl
 |some i=>
  dsimp only;rw[decide_eq_false (show ¬(i:Int)<0 by omega),toNat_cast,GF]
  cases fS h != 0<;>rfl
theorem Zt{q:Nat→Bool}{n i:Nat}(hi:i<n)(aH:q i=true):(ck q n).isSome=true:=by
 cases h:ck q n with
 |none=>rw[rb h i hi]at aH;cases aH
 |some j=>rfl
theorem P9(l:List ByteArray)(x:ByteArray):iJ l x= !decide (mS l x<0):=by
 unfold iJ
 by_cases h:mS l x<0
 ·rw[decide_eq_true h]
  exact decide_eq_false (by omega)
 ·rw[decide_eq_false h]
  exact decide_eq_true (by omega)
theorem Zu{h:Home}(aL:fS h=0){i j:Nat}(hi:i<h.bl.length)(af:j<h.bl.length)(he:(h.bl.getD i (aA .bu)).id=(h.bl.getD j (aA .bu)).id):i=j:=by
 rcases Nat.lt_trichotomy i j with aa|aa|aa
 ·have:=G2 aL j i af aa
  omega
 ·exact aa
 ·have:=G2 aL i j hi aa
  omega
theorem Zv{h:Home}(aL:fS h=0)(x:Int)(n:ByteArray):sJ h x n=ri h x n:=by
 rw[P8,PY,aL]
 show(match ck (fun i=>(h.bl.getD i (aA .bu)).id==x) h.bl.length with
  |none=>((⟨⟨#[]⟩,[],[],[]⟩:aJ),false)
  |some i=>bif decide (mS (h.bl.getD i (aA .bu)).bp n<0)then((⟨⟨#[]⟩,[],[],[]⟩:aJ),false)else(h.bp.getD (Int.toNat (lD h n)) (aA .aJ),true))=_
 cases hf:ck (fun i=>(h.bl.getD i (aA .bu)).id==x) h.bl.length with
 |none=>
  rw[wk fun j af=>?_]
  ·rfl
  ·have:=rb hf j af
   unfold sI;rw[this];rfl
 |some i=>
  obtain⟨aa,ae,_⟩:=jX hf
  have ae:(h.bl.getD i (aA .bu)).id=x:=by simpa using ae
  dsimp only
  cases hm:decide (mS (h.bl.getD i (aA .bu)).bp n<0)with
  |true=>
   rw[wk fun j af=>?_]
   ·rfl
   ·unfold sI
    cases hx:(h.bl.getD j (aA .bu)).id==x with
    |false=>rfl
    |true=>
     have hx:(h.bl.getD j (aA .bu)).id=x:=by simpa using hx
     obtain rfl:=Zu aL af aa (by rw[hx,ae])
     rw[P9,hm];rfl
  |false=>
   obtain⟨j,af⟩:=G3 aL aa hm;rw[Zt aa (by unfold sI;rw[ae,P9,hm];simp),wu,af]
   rfl
theorem find_eq(h:Home)(k:dh):zc h k=uy h k:=by
 unfold zc uy
 rw[P8,Cm]
 cases aR:(fS h != 0)with
 |true=>rfl
 |false=>
  have aL:=nI aR
  simp only[cond_false]
  cases hf:ck (fun i=>(h.bl.getD i (aA .bu)).id==k.dev) h.bl.length with
  |none=>rfl
  |some i=>
   obtain⟨aa,_,_⟩:=jX hf;unfold p2;simp only
   cases hm:decide (mS (h.bl.getD i (aA .bu)).bp k.dk<0)with
   |true=>rfl
   |false=>
    obtain⟨j,af⟩:=G3 aL aa hm;rw[look_eq (Ck (wx aL)),wu,af];simp only[cond_false,Option.map_some,Option.getD_some,toNat_cast,PR,PQ,Bool.not_true,Bool.or_false]
    cases ck (fun i=>decide (((h.bp.getD j (aA .aJ)).attrs.getD i (aA .Attr)).name=k.attr)) (h.bp.getD j (aA .aJ)).attrs.length<;>rfl
theorem Zw(h:Home)(q:bs):CA h q=CB h q:=by
 unfold CA CB
 simp only[find_eq,GH]
theorem Zx(c:aJ)(x:ByteArray):zd c x=ze c x:=by
 unfold zd ze
 exact el (fun _ _ _=>rfl) fun _=>rfl
theorem Zy{h:Home}(aL:fS h=0)(q:bs):CC h q=CD h q:=by
 unfold CC CD
 simp only[Zv aL,GH,Zx]
theorem Zz{q:bs}(aj:1≤q.kind∧q.kind≤7):(bif q.kind==(ma q).kind then bif q.dy==(ma q).dy then bif q.key.dev==(ma q).key.dev then bif dE q.key.dk (ma q).key.dk then bif dE q.key.attr (ma q).key.attr then bif dE q.name (ma q).name then bif q.value.kind==(ma q).value.kind then bif q.value.n==(ma q).value.n then bif dE q.value.s (ma q).value.s then dE q.text (ma q).text else false else false else false else false else false else false else false else false else false)=wy q:=by
 obtain⟨kind,dy,⟨dev,eO,at_⟩,name,⟨zjF,zjG,vs⟩,text⟩:=q
 have aj:kind=1∨kind=2∨kind=3∨kind=4∨kind=5∨kind=6∨kind=7:=by
  have aa:1≤kind∧kind≤7:=aj
  omega
 rcases aj with rfl|rfl|rfl|rfl|rfl|rfl|rfl
 all_goals
  rw[Bool.eq_iff_iff];simp[ma,wy,p1,PM,vU]
  try grind
theorem XA(h:Home)(q:bs):zf h q=mL h q:=by
 unfold zf mL v8 wa
 rw[Cl]
 dsimp only
 cases aR:(fS h != 0)with
 |true=>rfl
 |false=>
  have aL:=nI aR
  simp only[cond_false]
  cases aj:((decide (q.kind<1))||(decide (q.kind>7)))with
  |true=>rfl
  |false=>
   have rk:1≤q.kind∧q.kind≤7:=by
    simp only[Bool.or_eq_false_iff,decide_eq_false_iff_not]at aj;omega
   rw[Zz rk];simp only[cond_false]
   cases ((decide (q.dy<0))||(decide (q.dy>1099511627776)))with
   |true=>rfl
   |false=>
    cases wy q with
    |false=>rfl
    |true=>
     have: ∀z:Int,z=bif(z != 0)then z else 0:=fun z=>by
      cases aR:(z != 0)with
      |true=>rfl
      |false=>exact nI aR
     refine Eq.trans ?_ (this (zg h q))
     unfold zg;simp only[Zw,Zy aL,we,wc]
     cases q.kind==1<;>rfl
end Go.aK
namespace Go.aK
open Go Go.eK
theorem G7{b:ByteArray}{a c:Option Int}:(mU b a c).size≤b.size:=by
 cases a<;>cases c<;>simp only[mU,ByteArray.size_extract]<;>omega
theorem ZA(x:ByteArray)(z:Int): ∃n:Nat,ei x z=(n:Int)∧n<256:=⟨_,rfl,UInt8.toNat_lt _⟩
theorem ZB{R A B:Type}{Q:B→Prop}{f:R→B}{g:A→B}{l:R⊕A}(aa: ∀r,l= .inl r→Q (f r))(ae: ∀a,l= .inr a→Q (g a)):Q (Sum.elim f g l):=by
 cases l with
 |inl r=>exact aa r rfl
 |inr a=>exact ae a rfl
theorem ZC{R A:Type}{b:A→Step R A}{Q:R→Prop}(h: ∀a r,b a= .ret r→Q r): ∀(n:Nat) (a:A) (r:R),c4 b n a= .inl r→Q r:=by
 intro n
 induction n with
 |zero=>intro a r h;simp[c4]at h
 |succ n aX=>
  intro a r ag;unfold c4 at ag
  split at ag
  ·rename_i eP ad
   cases ag;exact h _ _ ad
  ·cases ag
  ·exact aX _ _ ag
theorem ZD{R A:Type}{b:A→Step R A}{I:A→Prop}(h: ∀a,I a→(∀bb,b a= .bq bb→I bb)∧∀bb,b a= .cN bb→I bb): ∀(n:Nat) (a bb:A),I a→c4 b n a= .inr bb→I bb:=by
 intro n
 induction n with
 |zero=>intro a bb bV h;simp[c4]at h;exact h ▸ bV
 |succ n aX=>
  intro a bb bV ag;unfold c4 at ag
  split at ag
  ·cases ag
  ·rename_i a2 ad
   cases ag;exact(h a bV).2 _ ad
  ·rename_i a2 ad
   exact aX _ _ ((h a bV).1 _ ad) ag
theorem Qa(z:Int):zh z:=by
 unfold zh
 decide
theorem Qb(l:List Int)(v:Int):(List.append l [v]).length=l.length+1:=by
 show(l++[v]).length=_
 rw[List.length_append]
 rfl
theorem ZE{x:ByteArray}(hx:ff x):CE x:=by
 unfold ff at hx
 unfold CE
 intro v1 h
 have h:(bz .rem .i64 (x.size:Int) 2 != 0)=false:=h
 have h:(x.size:Int).tmod 2=0:=by simpa[bz]using h
 have aH:bz .quo .i64 (x.size:Int) 2=((x.size/ 2:Nat):Int):=by
  show IntKind.wrap .i64 ((x.size:Int).tdiv 2)=_;rw[Int.tdiv_eq_ediv_of_nonneg (by omega),gQ _ (by omega) (by omega)]
  omega
 refine⟨?_,fun d=>0≤d.1∧d.1≤(x.size:Int)∧d.1%2=0∧(d.2.length:Int)≤d.1,fun d=>x.size-d.1.toNat,⟨Int.le_refl _,by show(0:Int)≤_;omega,rfl,Int.le_refl _⟩,?_,?_⟩
 ·show 0≤(0:Int)∧(0:Int)≤bz .quo .i64 (x.size:Int) 2∧bz .quo .i64 (x.size:Int) 2≤(maxLen:Int)∧(1:Int)*bz .quo .i64 (x.size:Int) 2≤281474976710656
  rw[aH];unfold maxLen;omega
 ·show x.size-Int.toNat 0<18446744073709551616
  omega
 ·intro d0 hd
  obtain⟨d1,d2,d3,d4⟩:=hd;intro bG
  have bG:d0.1<(x.size:Int):=of_decide_eq_true bG
  rw[Int.tmod_eq_emod_of_nonneg (by omega)]at h
  have cJ:IntKind.wrap .i64 (d0.1+1)=d0.1+1:=gQ _ (by omega) (by omega)
  have dH:IntKind.wrap .i64 (d0.1+2)=d0.1+2:=gQ _ (by omega) (by omega)
  refine⟨⟨d1,bG⟩,?_,Qa _,Qa _,fun _=>⟨⟨?_,?_⟩,⟨?_,?_,?_,?_⟩,?_⟩⟩
  ·show 0≤IntKind.wrap .i64 (d0.1+1)∧IntKind.wrap .i64 (d0.1+1)<_
   rw[cJ];omega
  ·show d0.2.length+1≤maxLen
   unfold maxLen;omega
  ·show(d0.2.length+1)*1≤_
   omega
  ·show 0≤IntKind.wrap .i64 (d0.1+2)
   rw[dH];omega
  ·show IntKind.wrap .i64 (d0.1+2)≤_
   rw[dH];omega
  ·show IntKind.wrap .i64 (d0.1+2)%2=0
   rw[dH];omega
  ·show((List.append d0.2 [_]).length:Int)≤IntKind.wrap .i64 (d0.1+2)
   rw[dH,Qb];omega
  ·show x.size-(IntKind.wrap .i64 (d0.1+2)).toNat<x.size-d0.1.toNat
   rw[dH];omega
theorem ZF{x:ByteArray}(hx:ff x):(oO x).1.size≤x.size+1:=by
 unfold ff at hx
 unfold oO
 dsimp only
 cases ((bz .rem .i64 (x.size:Int) (2:Int)) != 0)with
 |true=>exact Nat.zero_le _
 |false=>
  simp only[cond_false];refine ZB (Q:=fun r:ByteArray × Int=>r.1.size≤x.size+1) (fun r ag=>?_) (fun c hc=>?_)
  ·have:r=(⟨#[]⟩,4):=by
    refine ZC (Q:=fun r=>r=(⟨#[]⟩,4)) ?_ _ _ _ ag
    intro a r h;revert h;simp only[cond_eq_ite]
    repeat' split
    ·intro h;cases h;rfl
    ·intro h;cases h
    ·intro h;cases h
   rw[this];exact Nat.zero_le _
  ·have:0≤c.1∧c.1≤(x.size:Int)+1∧(c.2.length:Int)≤c.1:=by
    refine ZD (I:=fun c:Int × List Int=>0≤c.1∧c.1≤(x.size:Int)+1∧(c.2.length:Int)≤c.1) ?_ _ _ _ ⟨Int.le_refl _,by show(0:Int)≤_;omega,Int.le_refl _⟩ hc
    intro a aZ;obtain⟨b5,a2,a3⟩:=aZ
    cases bG:decide (a.1<(x.size:Int))with
    |false=>
     simp only[cond_false];refine⟨fun bb h=>(by cases h),fun bb h=>?_⟩
     cases h;exact⟨b5,a2,a3⟩
    |true=>
     have bG:=of_decide_eq_true bG
     simp only[cond_true]
     have dH:IntKind.wrap .i64 (a.1+2)=a.1+2:=gQ _ (by omega) (by omega)
     rw[dH];simp only[cond_eq_ite]
     split
     ·exact⟨fun bb h=>(by cases h),fun bb h=>(by cases h)⟩
     ·refine⟨fun bb h=>?_,fun bb h=>(by cases h)⟩
      cases h;refine⟨?_,?_,?_⟩
      ·show 0≤a.1+2;omega
      ·show a.1+2≤_;omega
      ·show((List.append a.2 [_]).length:Int)≤a.1+2
       rw[Qb];omega
   show(bytesOf c.2).size≤_;rw[ua];omega
theorem ff.str{x:ByteArray}(h:ff x){a b:Option Int}:ff (mU x a b):=by
 unfold ff at h⊢
 have:=G7 (b:=x) (a:=a) (c:=b)
 omega
theorem ZG: ∀n:Nat,n<256→(0≤bz .shr .u8 (n:Int) 4∧bz .shr .u8 (n:Int) 4<16)∧(0≤bz .and .u8 (n:Int) 15∧bz .and .u8 (n:Int) 15<16)∧(0≤bz .quo .u8 (n:Int) 16∧bz .quo .u8 (n:Int) 16<16)∧(0≤bz .rem .u8 (n:Int) 16∧bz .rem .u8 (n:Int) 16<16):=by decide+kernel
theorem ZH{d l:List Int}{k:Nat}(hd:d.length≤2*k)(aq:l.length≤2)(aj:k<1000001):(List.length d+List.length l≤maxLen∧(List.length d+List.length l)*1≤140737488355328)∧(List.append d l).length≤2*(k+1):=by
 refine⟨⟨by unfold maxLen;omega,by omega⟩,?_⟩
 show(d++l).length≤_
 rw[List.length_append]
 omega
theorem ZI{x:ByteArray}(h:x.size≤1000000):G8 x:=by
 refine⟨⟨by omega,by omega⟩,fun i d=>d.length≤2*i,Nat.zero_le _,fun i d hi hd=>?_⟩
 have hi:i<x.size:=by rwa[Int.toNat_natCast]at hi
 obtain⟨n,hn,ad⟩:=ZA x (i:Int)
 obtain⟨_,_,gU,gu⟩:=ZG n ad
 rw[hn]
 exact⟨gU,gu,ZH hd (Nat.le_refl _) (by omega)⟩
def sK(x:ByteArray):Prop:=x.size≤30000
theorem sK.wz{x:ByteArray}(h:sK x):ff x:=by unfold sK at h;unfold ff;omega
theorem wA(a b:ByteArray):ByteArray.size (ByteArray.append a b)=a.size+b.size:=ByteArray.size_append
theorem ZJ{x:ByteArray}(h:x.size≤4000000):G9 x:=by
 show 0≤(x.size:Int)∧(x.size:Int)<9223372036854775808
 omega
theorem ZK(n:Int){x:ByteArray}(h:x.size≤2000000):CF n x:=by
 unfold CF
 simp only[wA,ua,List.length_cons,List.length_nil]
 refine⟨by omega,by omega,ZJ ?_⟩
 simp only[wA,ua,List.length_cons,List.length_nil]
 omega
theorem ZL(n:Int){x:ByteArray}(h:x.size≤1000000):Ha n x:=by
 intro aP
 have aP:=of_decide_eq_false aP
 have aw:IntKind.wrap .i64 ((x.size:Int)-4)=(x.size:Int)-4:=sD (by omega) (by omega)
 rw[aw]
 have ai:=G7 (b:=x) (a:=none) (c:=some ((x.size:Int)-4))
 refine⟨⟨by omega,by omega⟩,ZK n (by omega),⟨by omega,?_⟩⟩
 show((mU x none (some ((x.size:Int)-4))).size:Int)≤(x.size:Int)
 omega
theorem ZM(n:Int)(x:ByteArray):(qa n x).1.size≤x.size:=by
 unfold qa
 dsimp only
 cases decide ((x.size:Int)<4)with
 |true=>exact Nat.zero_le _
 |false=>
  simp only[cond_false];generalize hc:cM .neq _ _=c
  cases c with
  |true=>exact Nat.zero_le _
  |false=>exact(G7 (b:=x) (a:=none) (c:=some (IntKind.wrap .i64 ((x.size:Int)-4))))
theorem ZN(n:Int){x:ByteArray}(h:sK x):Hb n x:=by
 have aa:=ZF h.wz
 have ae:=ZM n (oO x).1
 unfold sK at h
 have aq:dw (qa n (oO x).1).1:=by unfold dw;omega
 have aq:dw (⟨(qa n (oO x).1).1,0,true⟩:Rd).rest:=aq
 have aB:=q5 (n:=24) aq
 have sL:dw (hH ⟨(qa n (oO x).1).1,0,true⟩ 24).1.rest:=by rw[aB];exact yO aq
 have CG:dw (gq (hH ⟨(qa n (oO x).1).1,0,true⟩ 24).1).1.rest:=by rw[nB sL];exact pS sL
 have ZO:dw (gq (gq (hH ⟨(qa n (oO x).1).1,0,true⟩ 24).1).1).1.rest:=by rw[nB CG];exact pS CG
 exact⟨ZE (by unfold ff;omega),fun _=>⟨ZL n (by omega),fun _=>⟨sA aq,oD sL,oD CG,oD ZO,fun _=>q9 _⟩⟩⟩
theorem ZP(n:Int){x:ByteArray}(h:sK x)(now:Int)(l:List Int):Hc n x now l:=ZN n h
theorem Qc(n:Int):CH n:=by
 refine⟨fun d=> -1≤d.2∧d.2≤7∧(d.1.size:Int)≤7-d.2,fun d=>(d.2+1).toNat,⟨by decide,by decide,by decide⟩,by decide,fun d hd aL=>?_⟩
 obtain⟨aa,ae,au⟩:=hd
 have aL:=of_decide_eq_true aL
 have aB:IntKind.wrap .u64 d.2=d.2:=by rw[pP];omega
 have bd:IntKind.wrap .u64 (8*d.2)=8*d.2:=by rw[pP];omega
 have cj:IntKind.wrap .i64 (d.2-1)=d.2-1:=sD (by omega) (by omega)
 simp only[aB,bd,cj,wA,ua,List.length_cons,List.length_nil]
 refine⟨by omega,by omega,⟨by omega,by omega,by omega⟩,by omega⟩
def Hd(n:Int):ByteArray:=bytesOf [(IntKind.wrap .u8 (bz .shr .u64 n (56:Int))),(IntKind.wrap .u8 (bz .shr .u64 n (48:Int))),(IntKind.wrap .u8 (bz .shr .u64 n (40:Int))),(IntKind.wrap .u8 (bz .shr .u64 n (32:Int))),(IntKind.wrap .u8 (bz .shr .u64 n (24:Int))),(IntKind.wrap .u8 (bz .shr .u64 n (16:Int))),(IntKind.wrap .u8 (bz .shr .u64 n (8:Int))),(IntKind.wrap .u8 (bz .shr .u64 n (0:Int)))]
theorem ZQ(n:Int):wB n=Hd n:=by kernel_rfl
theorem Qd(n:Int):(Hd n).size=8:=by
 unfold Hd
 rw[ua]
 rfl
theorem ZR(n:Int){x:ByteArray}(h:x.size≤2000000):CI n x:=by
 unfold CI
 simp only[ZQ,wA,Qd]
 refine⟨Qc n,by omega,Qc n,by omega,?_⟩
 show 0≤(ByteArray.size _:Int)∧(ByteArray.size _:Int)<9223372036854775808
 simp only[wA,Qd]
 omega
theorem ZS(n:Int){x:ByteArray}(h:x.size≤2000000):He n x:=by
 refine⟨ZR n h,?_⟩
 show x.size+(zi (CJ n x)).size≤_
 unfold zi
 rw[ua]
 simp only[List.length_cons,List.length_nil]
 omega
end Go.aK
namespace Go.aK
open Go Go.eK
theorem ZT(h:Home){l:List cw}{k:Nat}(aj:k<l.length):CK h l (k:Int):=by
 have ai:iZ l.length none (some (k:Int)):=uq (by omega) (by omega)
 have aL:0≤(k:Int):=by omega
 have aa:(k:Int)<(l.length:Int):=by omega
 unfold CK
 repeat' (first|exact trivial|exact aL|exact aa|exact ai|exact q9 _|intro _|refine And.intro ?_ ?_|refine Exists.intro (fun _ _=>True) (And.intro trivial ?_))
theorem ZU(h:Home)(l:List cw):Hf h l:=by
 refine⟨GC h,fun _ _=>⟨fun _ _=>True,trivial,fun i _ hi _=>⟨ZT h (by rw[toNat_cast]at hi;omega),fun _=>trivial⟩⟩⟩
def CL(l:List cw):Prop:=∀m∈l,m.nK.length≤1000000∧m.fY.length≤1000000
theorem ZV{l:List cw}(aq:CL l)(x:ByteArray):Hg l x:=by
 refine⟨fun _ _=>True,trivial,fun i _ hi _=>⟨fun _=>?_,fun _=>trivial⟩⟩
 rw[toNat_cast]at hi⊢
 obtain⟨aa,ae⟩:=aq _ (B7 (d:=aA .cw) hi)
 refine⟨?_,Gu ae⟩
 unfold Hh maxLen
 omega
theorem ZW(h:Home)(x:Int):rm h x:=GD h x
theorem ZX(h:Home)(k:dh):CM h k:=PX h k
theorem ZY{h:Home}{d:bu}(aR:rh h d=0):d.bp.length≤4:=by
 unfold rh at aR
 dsimp only at aR
 have:=(lC (by decide) aR).1
 simp only[Bool.or_eq_false_iff,decide_eq_false_iff_not]at this
 omega
theorem ZZ(h:Home)(x:Int):(l9 h x).1.bp.length≤4:=by
 rw[Cm]
 cases aR:(fS h != 0)with
 |true=>exact Nat.zero_le _
 |false=>
  have aL:=nI aR
  simp only[cond_false]
  cases hf:ck (fun i=>(h.bl.getD i (aA .bu)).id==x) h.bl.length with
  |none=>exact Nat.zero_le _
  |some i=>
   have hi:=(jX hf).1
   have aq:=G0 aL
   exact ZY (G1 (by omega) (GZ aL i hi)).2
theorem Z0{h:Home}{x:Int}{i:Nat}(hi:i<(l9 h x).1.bp.length):fS h=0:=by
 rw[Cm]at hi
 cases aR:(fS h != 0)with
 |true=>rw[aR]at hi;exact absurd hi (Nat.not_lt_zero _)
 |false=>exact nI aR
theorem Z1{c:aJ}(h:oK c=false):c.attrs.length≤12:=by
 unfold oK at h
 dsimp only at h
 rw[toNat_cast,iI (p:=fun i=>decide ((List.length ((List.getD c.commands i (aA .Command)).gh):Int)>12)) (F:=fun _=>true) (fun i u=>by simp only[toNat_cast])]at h
 cases hf:ck (fun i=>decide ((List.length ((List.getD c.commands i (aA .Command)).gh):Int)>12)) c.commands.length with
 |none=>
  rw[hf]at h;simp only[Bool.or_eq_false_iff,decide_eq_false_iff_not]at h;omega
 |some i=>rw[hf]at h;cases h
theorem Z2{h:Home}(aL:fS h=0)(x:ByteArray):((jF .str (kB h) x).getD (aA .aJ)).attrs.length≤12:=by
 rw[look_eq (Ck (wx aL))]
 cases hf:ck (fun i=>decide ((h.bp.getD i (aA .aJ)).name=x)) h.bp.length with
 |none=>exact Nat.zero_le _
 |some i=>exact Z1 (Ci (wx aL) i (jX hf).1).1.wide
theorem Z3{α:Type}(l:List α)(v:α):(List.append l [v]).length=l.length+1:=by
 show(l++[v]).length=_
 rw[List.length_append]
 rfl
theorem Z4(h:Home)(x:Int):Hi h x:=by
 refine⟨GD h x,fun k d=>d.length≤12*k,Nat.zero_le _,fun i d hi hd=>?_⟩
 rw[toNat_cast]at hi
 have aP:=ZZ h x
 have aL:=Z0 hi
 have zjH:=Z2 aL ((l9 h x).1.bp.getD (Int.toNat (i:Int)) (aA .str))
 refine⟨fun j e=>e.length≤12*i+j,by show d.length≤_;omega,fun j e af he=>?_,fun c hc=>?_⟩
 ·rw[toNat_cast]at af
  have he:e.length≤12*i+j:=he
  refine⟨?_,?_⟩
  ·show e.length+1≤maxLen∧(e.length+1)*40≤140737488355328
   unfold maxLen;omega
  ·show(List.append e [_]).length≤_
   rw[Z3];omega
 ·rw[toNat_cast]at hc
  have hc:c.length≤12*i+_:=hc
  show c.length≤12*(i+1);omega
theorem Z5(h:Home)(q:bs):wC h q:=by
 unfold wC
 repeat' (first|exact trivial|exact ZX _ _|exact Z4 _ _|intro _|refine And.intro ?_ ?_|refine Exists.intro (fun _ _=>True) (And.intro trivial ?_))
theorem Z6(h:Home)(m:cw)(w:Int)(q:bs):CN h m w q:=by
 unfold CN
 repeat' (first|exact trivial|exact ZW _ _|exact Z5 _ _|intro _|refine And.intro ?_ ?_|refine Exists.intro (fun _ _=>True) (And.intro trivial ?_))
theorem Z7(h:Home){l:List cw}(aq:CL l)(x:ByteArray)(w:Int)(q:bs):Hj h l x w q:=⟨ZU h l,fun _=>⟨ZV aq x,fun _=>Z6 _ _ _ _⟩⟩
theorem Z8(l:List cH)(x:ByteArray):jY l x=match ck (fun i=>decide ((l.getD i (aA .cH)).e8=x)) l.length with
 |some i=>((i:Int),true)
 |none=>match ck (fun i=>cM .gtr (l.getD i (aA .cH)).e8 x) l.length with
  |some j=>((j:Int),false)
  |none=>((l.length:Int),false):=by
 unfold jY
 dsimp only
 rw[toNat_cast,iI (p:=fun i=>decide ((l.getD i (aA .cH)).e8=x)) (F:=fun i=>((i:Int),true)) (fun i u=>by
  simp only[p1,toNat_cast]
  rw[decide_eq_true (show(i:Int)≥0 by omega),cond_true])]
 cases ck (fun i=>decide ((l.getD i (aA .cH)).e8=x)) l.length with
 |some i=>rfl
 |none=>
  dsimp only
  rw[decide_eq_false (show ¬(-1:Int)≥0 by omega),cond_false,iI (p:=fun i=>cM .gtr (l.getD i (aA .cH)).e8 x) (F:=fun i=>((i:Int),false)) (fun i u=>by
   simp only[toNat_cast]
   rw[decide_eq_false (show ¬(i:Int)<0 by omega),cond_false])]
  cases ck (fun i=>cM .gtr (l.getD i (aA .cH)).e8 x) l.length<;>rfl
theorem Z9(l:List cH)(x:ByteArray):(0≤(jY l x).1∧(jY l x).1≤(l.length:Int))∧((jY l x).2=true→(jY l x).1<(l.length:Int)):=by
 rw[Z8]
 cases hf:ck (fun i=>decide ((l.getD i (aA .cH)).e8=x)) l.length with
 |some i=>
  have:=(jX hf).1
  dsimp only;exact⟨⟨by omega,by omega⟩,fun _=>by omega⟩
 |none=>
  dsimp only
  cases ah:ck (fun i=>cM .gtr (l.getD i (aA .cH)).e8 x) l.length with
  |some j=>
   have:=(jX ah).1
   dsimp only;exact⟨⟨by omega,by omega⟩,fun h=>by cases h⟩
  |none=>
   dsimp only;exact⟨⟨by omega,Int.le_refl _⟩,fun h=>by cases h⟩
theorem zaa{w:fl}(h:zj w=0): -1≤w.top∧w.top≤1099511627776:=by
 unfold zj at h
 simp only[cond_eq_ite]at h
 split at h
 ·rename_i aa
  simp only[Bool.and_eq_true,beq_iff_eq]at aa;omega
 ·split at h
  ·cases h
  ·rename_i ae
   simp only[Bool.or_eq_true,decide_eq_true_eq,not_or]at ae;omega
theorem zab(w:fl):Hk w:=by
 intro _ ae v10 v11 au
 have au:=of_decide_eq_true au
 simp only[Bool.or_eq_false_iff,decide_eq_false_iff_not]at ae
 show 0≤IntKind.wrap .i64 (w.top+1)
 rw[sD (by omega) (by omega)]
 omega
theorem Qe(w:fl)(n:Int):Hl w n:=by
 refine⟨zab w,fun h=>?_⟩
 simp only[Bool.or_eq_false_iff,decide_eq_false_iff_not]at h
 obtain⟨⟨⟨aa,ae⟩,au⟩,_⟩:=h
 obtain⟨t1,t2⟩:=zaa (nI aa)
 refine⟨fun bE _=>?_,fun bE=>?_⟩
 ·have bE:=of_decide_eq_true bE
  show 0≤IntKind.wrap .i64 (n-w.top);rw[sD (by omega) (by omega)]
  omega
 ·have bE:=of_decide_eq_false bE
  show 0≤IntKind.wrap .i64 (w.top-n);rw[sD (by omega) (by omega)]
  omega
theorem Hm{c:Config}{ms:List cw}{ws:List cH}{av:List Int}{a:ir}{now oP:Int}(hm:CL ms)(hw:ws.length≤1000000)(aG:sK a.token):wD c ms ws av a now oP:=by
 obtain⟨dG,eQ⟩:=Z9 ws (lE c.key a.token now av).1.e8
 unfold wD
 zac bA bT c8 aM dM bN
 have J: ∀z,bN z:=by
  intro z _;refine⟨fun ak=>⟨⟨dG.1,eQ ak⟩,⟨dG.1,eQ ak⟩,Qe _ _,fun _=>⟨fun _=>⟨⟨dG.1,eQ ak⟩,dG.1,eQ ak⟩,fun hf=>?_⟩⟩,fun ak=>⟨Qe _ _,fun _=>⟨fun hf=>?_,fun _=>⟨uq dG.1 dG.2,⟨Int.le_refl _,?_⟩,?_⟩⟩⟩⟩
  ·rw[ak]at hf;cases hf
  ·rw[ak]at hf;cases hf
  ·show(0:Int)<1
   decide
  ·show ws.length+1≤maxLen∧(ws.length+1)*32≤140737488355328
   unfold maxLen;omega
 refine⟨⟨?_,?_⟩,ZP _ aG _ _,fun _=>⟨OQ _ _,fun _=>J _,fun _=>⟨Z7 _ hm _ _ _,fun _=>J _,fun _=>J _⟩⟩,fun _=>J _⟩
 ·show 0+ws.length≤maxLen
  unfold maxLen;omega
 ·show(0+ws.length)*32≤140737488355328
  omega
end Go.aK
namespace Go.aK
open Go Go.eK
noncomputable def zk(ws:List cH)(name:ByteArray):fl:=bif(jY ws name).2 then(ws.getD (Int.toNat (jY ws name).1) (aA .cH)).uz else⟨-1,0⟩
noncomputable def CO(ws:List cH)(name:ByteArray)(w:fl):List cH:=bif(jY ws name).2 then List.set ws (Int.toNat (jY ws name).1) ⟨(ws.getD (Int.toNat (jY ws name).1) (aA .cH)).e8,w⟩else(ws.take (Int.toNat (jY ws name).1)++[⟨name,w⟩])++ws.drop (Int.toNat (jY ws name).1)
noncomputable def Hn(ws:List cH)(name:ByteArray)(n:Int):ByteArray × List cH × Int:=bif !(uA (zk ws name) n).2 then(⟨#[]⟩,ws,18)else(name,CO ws name (uA (zk ws name) n).1,0)
theorem zad(c:Config)(ms:List cw)(ws:List cH)(av:List Int)(a:ir)(now oP:Int):qb c ms ws av a now oP=
 bif(lE c.key a.token now av).2 != 0 then(⟨#[]⟩,ws,(lE c.key a.token now av).2)else bif(mL c.home a.request) != 0 then(⟨#[]⟩,ws,mL c.home a.request)else
 bif(uB c.home ms (lE c.key a.token now av).1.e8 oP a.request) != 0 then(⟨#[]⟩,ws,uB c.home ms (lE c.key a.token now av).1.e8 oP a.request)else Hn ws (lE c.key a.token now av).1.e8 a.request.dy:=by
 unfold qb Hn zk CO
 dsimp only
 generalize lE c.key a.token now av=v
 generalize mL c.home a.request=x
 generalize uB c.home ms v.1.e8 oP a.request=y
 have aw:(v.2 != 0)= !(v.2==0):=rfl
 cases aa:v.2==0 with
 |false=>
  rw[aw,aa];simp only[cond_false,cond_true,Bool.not_false,aw,aa]
 |true=>
  rw[aw,aa];simp only[cond_true,Bool.not_true,cond_false]
  cases ae:(x != 0)with
  |true=>simp only[cond_true,ae]
  |false=>
   simp only[cond_false]
   cases au:(y != 0)with
   |true=>simp only[cond_true,au]
   |false=>
    simp only[cond_false,show((0:Int) != 0)=false from rfl]
    cases (jY ws v.1.e8).2<;>rfl
theorem zae(ws:List cH)(name:ByteArray)(w:fl):(CO ws name w).length≤ws.length+1:=by
 unfold CO
 cases (jY ws name).2 with
 |true=>
  simp only[cond_true,List.length_set];omega
 |false=>
  simp only[cond_false,List.length_append,List.length_take,List.length_drop,List.length_cons,List.length_nil];omega
theorem zaf(c:Config)(ms:List cw)(ws:List cH)(av:List Int)(a:ir)(now oP:Int):(qb c ms ws av a now oP).2.1.length≤ws.length+1:=by
 rw[zad]
 generalize ((lE c.key a.token now av).2 != 0)=A
 generalize (mL c.home a.request != 0)=B
 generalize (uB c.home ms (lE c.key a.token now av).1.e8 oP a.request != 0)=C
 unfold Hn
 generalize (uA (zk ws (lE c.key a.token now av).1.e8) a.request.dy).2=D
 have:=zae ws (lE c.key a.token now av).1.e8 (uA (zk ws (lE c.key a.token now av).1.e8) a.request.dy).1
 cases A<;>cases B<;>cases C<;>cases D<;>first|exact this|exact Nat.le_succ _
def wE:eL:=⟨⟨#[97,110,110]⟩,1,0,100⟩
theorem Qf:(decide ((zl (7:Int) wE).1.size≤30000)&&(decide ((zm wE).size≤2000000)&&decide ((CP (7:Int) (zm wE)).size≤1000000)))=true:=by kernel_rfl
theorem zn{n:Int}(aa: -1000000≤n)(ae:n≤1000000):hG n:=⟨by omega,by omega⟩
theorem zag:CQ wE:=by
 have ai:ff (⟨#[97,110,110]⟩:ByteArray):=by unfold ff;decide
 have aa:=zn (n:=1) (by decide) (by decide)
 have aL:=zn (n:=0) (by decide) (by decide)
 have ae:=zn (n:=100) (by decide) (by decide)
 have b5:=ue ai
 have a2:=kT aa
 have a3:=kT aL
 have a4:=kT ae
 unfold CQ
 simp only[wA]
 show pQ ⟨#[97,110,110]⟩∧iF 1∧(iG ⟨#[97,110,110]⟩).size+(fA 1).size≤_∧iF 0∧(iG ⟨#[97,110,110]⟩).size+(fA 1).size+(fA 0).size≤_∧iF 100∧(iG ⟨#[97,110,110]⟩).size+(fA 1).size+(fA 0).size+(fA 100).size≤_
 rw[oA ai,l5 aa,l5 aL,l5 ae]
 exact⟨vZ ai,oz aa,by omega,oz aL,by omega,oz ae,by omega⟩
theorem zah:Ho (7:Int) wE:=by
 have h:=Qf
 simp only[Bool.and_eq_true,decide_eq_true_eq]at h
 exact⟨sC _,fun _=>⟨zag,ZS _ h.2.1,ZI h.2.2⟩⟩
theorem Hp:sK (zl (7:Int) wE).1:=by
 have h:=Qf
 simp only[Bool.and_eq_true,decide_eq_true_eq]at h
 exact h.1
def zai:bs:=⟨1,4,⟨1,⟨#[111,110,111,102,102]⟩,⟨#[111,110]⟩⟩,⟨#[]⟩,⟨0,0,⟨#[]⟩⟩,⟨#[]⟩⟩
theorem ON:zo=true:=by kernel_rfl
theorem Hq:CL CR.2:=fun m hm=>by
 have hm:m∈([⟨⟨#[97,110,110]⟩,4,[],[],false⟩]:List cw):=hm
 rw[List.mem_singleton]at hm
 subst hm
 exact⟨by decide,by decide⟩
theorem BK:wF:=by
 unfold wF
 zac v0 v3 v6 v10 fv ea b7 iu
 have zjI:v6.2.1.length≤1:=zaf _ _ _ _ _ _ _
 have aH:pJ zai:=by
  constructor<;>first|exact zn (by decide) (by decide)|(unfold ff;decide)|(constructor<;>first|exact zn (by decide) (by decide)|(unfold ff;decide))
 refine⟨trivial,zah,Hm Hq (by decide) Hp,Hm Hq (by omega) Hp,Hm Hq (by omega) Hp,OM aH,OL (Yv aH),fun h=>⟨Int.le_refl _,?_⟩⟩
 have h:((v3.2==0&&cM .eql v6.1 (⟨#[97,110,110]⟩:ByteArray))&&v6.2.2==0&&(List.length v6.2.1:Int)==1)=true:=h
 simp only[Bool.and_eq_true,beq_iff_eq]at h
 omega
end Go.aK
namespace Go.aK
open Go Go.eK
theorem d64{x:Int}(h:lF ⟨.int .i64,x⟩):hG x:=by
 cases h
 rename_i h
 have h:(decide (-9223372036854775808≤x)&&decide (x≤9223372036854775807))=true:=h
 rw[Bool.and_eq_true]at h
 have aa:=of_decide_eq_true h.1
 have ae:=of_decide_eq_true h.2
 exact⟨aa,by omega⟩
theorem zp{x:ByteArray}(h:lF ⟨.str,x⟩):ff x:=by
 cases h
 rename_i h
 exact h
theorem Xw{x:bs}(h:tV ⟨.st .bs,x⟩):pJ x:=by
 have ba: ∀(i:Nat) (d:aF),(k1 .bs x)[i]? =some d→lF d:=fun i d hi=>h d (List.mem_of_getElem? hi)
 exact⟨d64 (ba 0 _ rfl),d64 (ba 1 _ rfl),d64 (ba 2 _ rfl),zp (ba 3 _ rfl),zp (ba 4 _ rfl),zp (ba 5 _ rfl),⟨d64 (ba 6 _ rfl),d64 (ba 7 _ rfl),zp (ba 8 _ rfl)⟩,zp (ba 9 _ rfl)⟩
end Go.aK
