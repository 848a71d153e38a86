/- Loops that look for the first; the checks of attributes are the reference's. Conditions: none. -/
import Derived.Test.YtmkpmgfieagphaaGreatDoorKLf
import Derived.Test.YtmkpmgfieagphaaGreatDoorKTEk
import Derived.Test.YtmkpmgfieagphaaGreatDoorKPn
namespace Go.aL
open Go Go.eL
def cl(q:Nat→Bool)(n:Nat):Option Nat:=(List.range n).find? q
theorem jY{q:Nat→Bool}{n i:Nat}(h:cl q n=some i):i<n∧q i=true∧∀j,j<i→q j=false:=by
 unfold cl at h
 rw[List.find?_range_eq_some]at h
 obtain⟨aa,ae,au⟩:=h
 exact⟨List.mem_range.1 ae,aa,fun j af=>by simpa using au j af⟩
theorem re{q:Nat→Bool}{n:Nat}(h:cl q n=none): ∀j,j<n→q j=false:=fun j af=>by
 unfold cl at h
 rw[List.find?_range_eq_none]at h
 simpa using h j af
theorem wm{q:Nat→Bool}{n:Nat}(h: ∀j,j<n→q j=false):cl q n=none:=by
 unfold cl
 rw[List.find?_range_eq_none]
 exact fun j af=>by simp[h j af]
theorem y2{q:Nat→Bool}{n i:Nat}(hi:i<n)(aI:q i=true)(hn: ∀j,j<i→q j=false):cl q n=some i:=by
 unfold cl
 rw[List.find?_range_eq_some]
 exact⟨aI,List.mem_range.2 hi,fun j af=>by simp[hn j af]⟩
theorem Cc{q q':Nat→Bool}{n:Nat}(h: ∀j,j<n→q j=q' j):cl q n=cl q' n:=by
 cases aa:cl q' n with
 |none=>exact wm fun j af=>by rw[h j af];exact re aa j af
 |some i=>
  obtain⟨a,b,c⟩:=jY aa;exact y2 a (by rw[h i a];exact b) fun j af=>by rw[h j (by omega)];exact c j af
theorem YG{R:Type}{p:Nat→Bool}{f:Nat→R}{b:Nat→Unit→Step R Unit}(ad: ∀i c,b i c=bif p i then .ret (f i)else .br ()):
 ∀(n k:Nat),bo b k n ()=match(List.range' k n).find? p with|some i=>.inl (f i)|none=>.inr ():=by
 intro n
 induction n with
 |zero=>intro k;rfl
 |succ n aY=>
  intro k;unfold bo;rw[ad,List.range'_succ,List.find?_cons]
  cases p k with
  |true=>rfl
  |false=>exact aY (k+1)
theorem iJ{R Q:Type}{p:Nat→Bool}{F:Nat→R}{b:Nat→Unit→Step R Unit}{f:R→Q}{g:Unit→Q}{n:Nat}(ad: ∀i u,b i u=bif p i then .ret (F i)else .br ()):
 Sum.elim f g (bo b 0 n ())=match cl p n with|some i=>f (F i)|none=>g ():=by
 rw[YG ad,←List.range_eq_range']
 show Sum.elim f g (match cl p n with|some i=>.inl (F i)|none=>.inr ())=_
 cases cl p n<;>rfl
theorem PM{R A:Type}{b b':Nat→A→Step R A}: ∀(n k:Nat) (a:A),(∀i a,k≤i→i<k+n→b i a=b' i a)→bo b k n a=bo b' k n a
 |0,_,_,_=>rfl
 |n+1,k,a,h=>by
  unfold bo;rw[h k a (Nat.le_refl _) (by omega)]
  cases b' k a with
  |ret r=>rfl
  |cO bc=>rfl
  |br bc=>exact PM n (k+1) bc fun i a aa ae=>h i a (by omega) (by omega)
theorem el{R Q A:Type}{f:R→Q}{g g':A→Q}{b b':Nat→A→Step R A}{n:Nat}{a:A}(ad: ∀i a,i<n→b i a=b' i a)(ah: ∀a,g a=g' a):Sum.elim f g (bo b 0 n a)=Sum.elim f g' (bo b' 0 n a):=by
 rw[PM n 0 a fun i a _ h=>ad i a (by omega),show g=g' from funext ah]
theorem p2(a b:ByteArray):cN .eql a b=decide (a=b):=vV a b
theorem PN(a b:ByteArray):cN .neq a b= !decide (a=b):=by
 show(!dF a b)=_
 rw[vV]
theorem PO{q:Nat→Bool}{n i:Nat}(hi:i<n)(aI:q i=true):decide ((match cl q n with|some j=>(j:Int)|none=> -1)<(i:Int))=(cl q i).isSome:=by
 cases h:cl q n with
 |none=>rw[re h i hi]at aI;cases aI
 |some j=>
  obtain⟨aa,ae,au⟩:=jY h
  by_cases af:j<i
  ·rw[y2 af ae au]
   exact decide_eq_true (by show(j:Int)<(i:Int);omega)
  ·rw[wm fun k aj=>au k (by omega)]
   exact decide_eq_false (by show ¬(j:Int)<(i:Int);omega)
theorem Cd(l:List ByteArray)(x:ByteArray):mT l x=match cl (fun i=>decide (x=l.getD i (aA .str))) l.length with|some i=>(i:Int)|none=> -1:=by
 unfold mT
 dsimp only
 rw[toNat_cast,iJ (p:=fun i=>decide (x=l.getD i (aA .str))) (F:=fun i=>(i:Int)) (fun i u=>by simp only[p2,toNat_cast])]
theorem GG(l:List ByteArray)(x:ByteArray):rf l x=mT l x:=by
 rw[Cd]
 unfold rf
 dsimp only
 rw[toNat_cast,iJ (p:=fun i=>decide (l.getD i (aA .str)=x)) (F:=fun i=>(i:Int)) (fun i u=>by simp only[p2,toNat_cast]),Cc (q':=fun i=>decide (x=l.getD i (aA .str))) fun j _=>decide_eq_decide.2 eq_comm]
theorem YH(l:List ByteArray)(x:ByteArray):uu l x=(cl (fun i=>decide (x=l.getD i (aA .str))) l.length).isSome:=by
 unfold uu
 dsimp only
 rw[toNat_cast,iJ (p:=fun i=>decide (x=l.getD i (aA .str))) (F:=fun _=>true) (fun i u=>by simp only[p2,toNat_cast];rw[show(decide (l.getD i (aA .str)=x))=decide (x=l.getD i (aA .str))from decide_eq_decide.2 eq_comm])]
 all_goals cases cl (fun i=>decide (x=l.getD i (aA .str))) l.length<;>rfl
theorem YI(l:List ByteArray)(x:ByteArray):iK l x=(cl (fun i=>decide (x=l.getD i (aA .str))) l.length).isSome:=by
 unfold iK
 rw[Cd]
 cases cl (fun i=>decide (x=l.getD i (aA .str))) l.length with
 |none=>rfl
 |some i=>exact decide_eq_true (by show(i:Int)≥0;omega)
theorem getD_take{α:Type}{l:List α}{i j:Nat}{d:α}(h:j<i):(l.take i).getD j d=l.getD j d:=by
 rw[List.getD_eq_getElem?_getD,List.getD_eq_getElem?_getD,List.getElem?_take,if_pos h]
theorem sF{α:Type}(l:List α)(i:Nat):iL l none (some (i:Int))=l.take i:=rfl
theorem YJ{l:List ByteArray}{i:Nat}(hi:i<l.length):decide (p3 l (l.getD i (aA .str))<(i:Int))=uu (iL l none (some (i:Int))) (l.getD i (aA .str)):=by
 unfold p3
 rw[Cd,YH,sF,List.length_take,Nat.min_eq_left (by omega),PO hi (decide_eq_true rfl)]
 rw[Cc (q':=fun j=>decide (l.getD i (aA .str)=(l.take i).getD j (aA .str))) fun j af=>by rw[getD_take af]]
theorem YK(l:List ByteArray):(bif((decide ((List.length l:Int)<1))||(decide ((List.length l:Int)>64)))then 3 else
    Sum.elim (fun r=>r) (fun _=>0) (bo (fun(i13:Nat) (_:Unit)=>bif(!(jX (List.getD l (Int.toNat (i13:Int)) (aA .str))))then(.ret 10:Step Int Unit)else
      bif(uu (iL l none (some (i13:Int))) (List.getD l (Int.toNat (i13:Int)) (aA .str)))then .ret 9 else .br ()) 0 (Int.toNat (List.length l:Int)) ():Int⊕Unit))=wk l:=by
  unfold wk;dsimp only;refine congrArg (cond _ 3) ?_
  rw[toNat_cast];refine el (fun i _ hi=>?_) fun _=>rfl
  simp only[toNat_cast,wg,we];rw[YJ hi]
theorem GH(a:Attr):p4 a=kZ a:=by
 unfold p4 kZ sA
 rw[wg,we]
 dsimp only
 rw[YK]
 have aj:(a.kind != 3)= !(a.kind==3):=rfl
 rw[aj]
 have ad:((!(decide (a.min≥ -1099511627776)&&decide (a.min≤1099511627776))|| !(decide (a.max≥ -1099511627776)&&decide (a.max≤1099511627776)))||decide (a.min>a.max))=((decide (a.min< -1099511627776)||decide (a.max>1099511627776))||decide (a.min>a.max)):=by
  rw[Bool.eq_iff_iff];simp only[Bool.or_eq_true,Bool.not_eq_true',Bool.and_eq_false_iff,decide_eq_false_iff_not,decide_eq_true_eq];omega
 rw[←ad]
 cases a.kind==3<;>cases a.kind==2<;>cases (decide (a.min≥ -1099511627776)&&decide (a.min≤1099511627776))<;>rfl
end Go.aL
namespace Go.aL
open Go Go.eL
theorem YL(v:Int):(Ce v != v)=((decide (v<(-1099511627776)))||(decide (v>1099511627776))):=by
 have e:Ce v=if(1099511627776:Int)<(if(-1099511627776:Int)>v then(-1099511627776:Int)else v)then(1099511627776:Int)else(if(-1099511627776:Int)>v then(-1099511627776:Int)else v):=rfl
 rw[e,Bool.eq_iff_iff]
 simp only[bne_iff_ne,Bool.or_eq_true,decide_eq_true_eq]
 split<;>split<;>omega
theorem GI(a:Attr)(v:cf):wo a v=wq a v:=by
 unfold wo wq
 rw[GH,Gh]
 dsimp only
 generalize (v.kind==2&&(decide (v.n<a.min)||decide (v.n>a.max)))=A
 cases A<;>rfl
theorem PQ(x y:List ByteArray):y3 x y=y4 x y:=rfl
theorem GJ(x y:List ByteArray):y4 x y=decide (x=y):=by
 unfold y4
 dsimp only
 by_cases h:(x.length:Int)=(y.length:Int)
 ·rw[show((x.length:Int) != (y.length:Int))=false by simpa using h,cond_false,toNat_cast,iJ (p:=fun i=>!decide (x.getD i (aA .str)=y.getD i (aA .str))) (F:=fun _=>false) (fun i u=>by simp only[PN,toNat_cast])]
  cases hf:cl (fun i=>!decide (x.getD i (aA .str)=y.getD i (aA .str))) x.length with
  |none=>
   have hf:=re hf
   refine(decide_eq_true ?_).symm
   refine List.ext_getElem (by omega) fun i aa ae=>?_
   have:=hf i aa
   simpa[List.getD_eq_getElem?_getD,List.getElem?_eq_getElem aa,List.getElem?_eq_getElem ae]using this
  |some i=>
   obtain⟨_,ae,_⟩:=jY hf;refine(decide_eq_false fun e=>?_).symm
   subst e;simp at ae
 ·rw[show((x.length:Int) != (y.length:Int))=true by simpa using h,cond_true]
  exact(decide_eq_false fun e=>h (by rw[e])).symm
theorem YM(x y:Attr):Cf x y=((y.kind==x.kind)&&y3 y.enum x.enum):=by
 unfold Cf
 rw[PQ,GJ,GJ]
 have aa:(x.kind==y.kind)=(y.kind==x.kind):=by rw[Bool.eq_iff_iff];simp only[beq_iff_eq];exact eq_comm
 have ae:decide (x.enum=y.enum)=decide (y.enum=x.enum):=decide_eq_decide.2 eq_comm
 dsimp only
 rw[aa,ae]
 cases y.kind==x.kind<;>rfl
theorem YN(x:cP)(a b:Attr):Cg x a b=Ch x a b:=by
 unfold Cg Ch
 rw[YM]
 simp only[GI]
 cases b.kind==a.kind<;>cases x.kind==1<;>rfl
theorem YO(a:Attr):y5 a ⟨⟨#[]⟩,0,0,0,[],false,false⟩=uv a:=by
 unfold y5 uv
 dsimp only
 rw[PQ,GJ]
 have h:decide (a.enum=[])=((a.enum.length:Int)==0):=by
  rw[Bool.eq_iff_iff];simp
 rw[h]
 generalize (((cN .eql a.name ⟨#[]⟩&&a.kind==0)&&a.min==0)&&a.max==0)=A
 cases A<;>cases ((a.enum.length:Int)==0)<;>cases a.fC<;>cases a.safety<;>rfl
theorem GK(c:aK)(x:ByteArray):oK c x=match cl (fun i=>decide ((c.attrs.getD i (aA .Attr)).name=x)) c.attrs.length with|some i=>(i:Int)|none=> -1:=by
 unfold oK
 dsimp only
 rw[toNat_cast,iJ (p:=fun i=>decide ((c.attrs.getD i (aA .Attr)).name=x)) (F:=fun i=>(i:Int)) (fun i u=>by simp only[p2,toNat_cast])]
 all_goals cases cl (fun i=>decide ((c.attrs.getD i (aA .Attr)).name=x)) c.attrs.length<;>rfl
theorem PR(c:aK)(x:ByteArray):sG c x=match cl (fun i=>decide ((c.attrs.getD i (aA .Attr)).name=x)) c.attrs.length with|some i=>(c.attrs.getD i (aA .Attr),true)|none=>(⟨⟨#[]⟩,0,0,0,[],false,false⟩,false):=by
 unfold sG
 dsimp only
 rw[toNat_cast,iJ (p:=fun i=>decide ((c.attrs.getD i (aA .Attr)).name=x)) (F:=fun i=>(c.attrs.getD i (aA .Attr),true)) (fun i u=>by simp only[p2,toNat_cast]<;>rfl)]
 all_goals cases cl (fun i=>decide ((c.attrs.getD i (aA .Attr)).name=x)) c.attrs.length<;>rfl
theorem PS(c:aK)(x:ByteArray):uw c x=sG c x:=by
 unfold uw
 rw[GK,PR]
 cases cl (fun i=>decide ((c.attrs.getD i (aA .Attr)).name=x)) c.attrs.length with
 |none=>rfl
 |some i=>
  dsimp only;rw[decide_eq_false (show ¬(i:Int)<0 by omega),cond_false,toNat_cast]
theorem YP(c:aK)(a:Attr)(x:cP):y6 c a x=p5 c a x:=by
 unfold y6 p5
 simp only[PS,YN,←YL]
 cases x.kind==3<;>rfl
theorem YQ(c:aK){k:Nat}(aj:k<c.commands.length):y7 c (k:Int)=rh c (k:Int):=by
 unfold y7 rh
 simp only[wg,we,YP,GH,YO,toNat_cast,sF,List.length_take,Nat.min_eq_left (Nat.le_of_lt aj)]
 refine congrArg (cond _ 10) ?_
 refine el (fun i _ hi=>?_) fun _=>rfl
 rw[getD_take hi]
theorem PT(c:aK):y8 c=oL c:=by
 unfold y8 oL
 dsimp only
 generalize (((decide ((List.length c.attrs:Int)>12))||(decide ((List.length c.commands:Int)>12)))||(decide ((List.length c.events:Int)>12)))=A
 rw[toNat_cast,iJ (p:=fun i=>decide ((List.length ((List.getD c.commands i (aA .Command)).gi):Int)>12)) (F:=fun _=>true) (fun i u=>by simp only[toNat_cast]),iJ (p:=fun i=>decide ((List.length ((List.getD c.commands i (aA .Command)).gi):Int)>12)) (F:=fun _=>true) (fun i u=>by simp only[toNat_cast])]
 all_goals cases A<;>cases cl (fun i=>decide ((List.length ((List.getD c.commands i (aA .Command)).gi):Int)>12)) c.commands.length<;>rfl
theorem YR{c:aK}{i:Nat}(hi:i<c.attrs.length):decide (oK c ((c.attrs.getD i (aA .Attr)).name)<(i:Int))=(cl (fun j=>decide ((c.attrs.getD j (aA .Attr)).name=(c.attrs.getD i (aA .Attr)).name)) i).isSome:=by
 rw[GK]
 exact PO hi (decide_eq_true rfl)
theorem GL{α R Q:Type}(nm:α→ByteArray)(l:List α)(n:Nat)(d:α)(x:ByteArray)(r:R)(f:R→Q)(g:Unit→Q):
 Sum.elim f g (bo (fun(j:Nat) (_:Unit)=>bif cN .eql (nm (l.getD j d)) x then .ret r else .br ()) 0 n ())=bif(cl (fun j=>decide (nm (l.getD j d)=x)) n).isSome then f r else g ():=by
 rw[iJ (p:=fun j=>decide (nm (l.getD j d)=x)) (F:=fun _=>r) (fun i u=>by simp only[p2])]
 cases cl (fun j=>decide (nm (l.getD j d)=x)) n<;>rfl
theorem Ci{α R Q:Type}(nm:α→ByteArray)(l:List α)(n:Nat)(d:α)(x:ByteArray)(r:R)(f:R→Q)(g:Unit→Q):
 Sum.elim f g (bo (fun(j:Nat) (_:Unit)=>bif cN .eql (nm ((l.take n).getD j d)) x then .ret r else .br ()) 0 n ())=bif(cl (fun j=>decide (nm (l.getD j d)=x)) n).isSome then f r else g ():=by
 rw[GL nm (l.take n),Cc (q':=fun j=>decide (nm (l.getD j d)=x)) fun j af=>by rw[getD_take af]]
theorem YS(c:aK):y9 c=p6 c:=by
 unfold y9 p6
 simp only[wg,we,PT,GH,toNat_cast]
 refine congrArg (cond _ 10) (congrArg (cond _ 3) ?_)
 refine el (fun i _ hi=>?_) fun _=>el (fun i _ hi=>?_) fun _=>el (fun i _ hi=>?_) fun _=>rfl
 ·refine congrArg (cond _ _) ?_
  rw[YR hi,sF,List.length_take,Nat.min_eq_left (Nat.le_of_lt hi),Ci (fun a:Attr=>a.name)]
 ·rw[YQ c hi]
 ·refine congrArg (cond _ _) ?_
  rw[GL (fun s:ByteArray=>s),YI,sF,List.length_take,Nat.min_eq_left (Nat.le_of_lt hi)];rw[Cc (q':=fun j=>decide (c.events.getD i (aA .str)=(c.events.take i).getD j (aA .str))) fun j af=>by rw[getD_take af];exact decide_eq_decide.2 eq_comm]
theorem PU(l:List aK):za l=nK l:=by
 unfold za nK
 simp only[YS,toNat_cast]
 refine congrArg (cond _ 3) ?_
 refine el (fun i _ hi=>?_) fun _=>rfl
 refine congrArg (cond _ _) ?_
 rw[GL (fun a:aK=>a.name),sF,List.length_take,Nat.min_eq_left (Nat.le_of_lt hi),Ci (fun a:aK=>a.name)]
end Go.aL
namespace Go.aL
open Go Go.eL
theorem ux{e:Nat→Int}{b:Nat→Unit→Step Int Unit}{g:Unit→Int}{n:Nat}(ad: ∀i,i<n→b i ()=bif(e i != 0)then .ret (e i)else .br ()):
 Sum.elim (fun r=>r) g (bo b 0 n ())=0↔(∀i,i<n→e i=0)∧g ()=0:=by
 rw[el (b':=fun i _=>bif(e i != 0)then .ret (e i)else .br ()) (fun i _ hi=>ad i hi) fun _=>rfl,iJ (p:=fun i=>e i != 0) (F:=fun i=>e i) (fun _ _=>rfl)]
 cases h:cl (fun i=>e i != 0) n with
 |none=>
  have h:=re h
  exact⟨fun ah=>⟨fun i hi=>by simpa using h i hi,ah⟩,fun ah=>ah.2⟩
 |some i=>
  obtain⟨aa,ae,_⟩:=jY h
  have ae:e i≠0:=by simpa using ae
  exact⟨fun he=>absurd he ae,fun he=>absurd (he.1 i aa) ae⟩
theorem lD{c:Bool}{x y:Int}(hx:x≠0)(h:(bif c then x else y)=0):c=false∧y=0:=by
 cases c with
 |true=>exact absurd h hx
 |false=>exact⟨rfl,h⟩
theorem wu{x y:Int}(h:(bif(x != 0)then x else y)=0):x=0∧y=0:=by
 cases hx:(x != 0)with
 |true=>
  rw[hx]at h
  have h:x=0:=h
  rw[h]at hx;simp at hx
 |false=>
  rw[hx]at h;exact⟨by simpa using hx,h⟩
structure p7 (c:aK):Prop where
 wide:oL c=false
 attrs: ∀i,i<c.attrs.length→kZ (c.attrs.getD i (aA .Attr))=0∧(cl (fun j=>decide ((c.attrs.getD j (aA .Attr)).name=(c.attrs.getD i (aA .Attr)).name)) i).isSome=false
 YT: ∀i,i<c.commands.length→rh c (i:Int)=0
theorem YU{c:aK}(h:p6 c=0):p7 c:=by
 unfold p6 at h
 dsimp only at h
 obtain⟨_,h⟩:=lD (by decide) h
 obtain⟨hw,h⟩:=lD (by decide) h
 simp only[toNat_cast]at h
 obtain⟨a1,h⟩:=(ux (e:=fun i=>bif(kZ (c.attrs.getD i (aA .Attr)) != 0)then kZ (c.attrs.getD i (aA .Attr))else bif(cl (fun j=>decide ((c.attrs.getD j (aA .Attr)).name=(c.attrs.getD i (aA .Attr)).name)) i).isSome then 9 else 0) fun i hi=>by
  rw[sF,List.length_take,Nat.min_eq_left (Nat.le_of_lt hi),Ci (fun a:Attr=>a.name)]
  cases aS:(kZ (c.attrs.getD i (aA .Attr)) != 0)with
  |true=>simp only[cond_true,aS]
  |false=>
   simp only[cond_false]
   cases (cl (fun j=>decide ((c.attrs.getD j (aA .Attr)).name=(c.attrs.getD i (aA .Attr)).name)) i).isSome<;>rfl).1 h
 obtain⟨hc,_⟩:=(ux (e:=fun i=>rh c (i:Int)) fun i hi=>rfl).1 h
 refine⟨hw,fun i hi=>?_,hc⟩
 obtain⟨aa,ae⟩:=wu (a1 i hi)
 exact⟨aa,(lD (by decide) ae).1⟩
theorem p7.enum{c:aK}(h:p7 c): ∀a∈c.attrs,a.enum.length≤64:=fun a a1=>by
 obtain⟨j,af,rfl⟩:=List.mem_iff_getElem.1 a1
 have:=(h.attrs j af).1
 rw[List.getD_eq_getElem?_getD,List.getElem?_eq_getElem af]at this
 exact GA this
theorem YV{q:Nat→Bool}{n:Nat}(h:(cl q n).isSome=false): ∀j,j<n→q j=false:=by
 cases hf:cl q n with
 |none=>exact re hf
 |some i=>rw[hf]at h;cases h
theorem p7.YW{c:aK}(h:p7 c): ∀d∈c.commands,d.gi.length≤12:=fun d hd=>by
 obtain⟨j,af,rfl⟩:=List.mem_iff_getElem.1 hd
 have hw:=h.wide
 unfold oL at hw
 dsimp only at hw
 rw[toNat_cast,iJ (p:=fun i=>decide ((List.length ((List.getD c.commands i (aA .Command)).gi):Int)>12)) (F:=fun _=>true) (fun i u=>by simp only[toNat_cast])]at hw
 cases hf:cl (fun i=>decide ((List.length ((List.getD c.commands i (aA .Command)).gi):Int)>12)) c.commands.length with
 |none=>
  have:=re hf j af
  rw[List.getD_eq_getElem?_getD,List.getElem?_eq_getElem af]at this
  have:=of_decide_eq_false this
  simp only[Option.getD_some]at this;omega
 |some i=>rw[hf]at hw;cases hw
theorem YX{c:aK}{k:Nat}(h:rh c (k:Int)=0)(aj:k<c.commands.length):
 (((c.commands.getD k (aA .Command)).param.kind=0∧uv (c.commands.getD k (aA .Command)).param=true)∨kZ (c.commands.getD k (aA .Command)).param=0)∧∀i,i<(c.commands.getD k (aA .Command)).gi.length→p5 c (c.commands.getD k (aA .Command)).param ((c.commands.getD k (aA .Command)).gi.getD i (aA .cP))=0:=by
 unfold rh at h
 simp only[toNat_cast]at h
 generalize c.commands.getD k (aA .Command)=d at h⊢
 obtain⟨_,h⟩:=lD (by decide) h
 rw[sF,List.length_take,Nat.min_eq_left (Nat.le_of_lt aj)]at h
 obtain⟨_,h⟩:=(ux (e:=fun i=>bif cN .eql (((c.commands.take k).getD i (aA .Command)).name) d.name then 9 else 0) fun i hi=>by
  cases cN .eql (((c.commands.take k).getD i (aA .Command)).name) d.name<;>rfl).1 h
 have e3: ∀{x:Int},x=Sum.elim (fun r=>r) (fun _=>0) (bo (fun(i9:Nat) (_:Unit)=>bif(p5 c d.param (d.gi.getD i9 (aA .cP)) != 0)then(.ret (p5 c d.param (d.gi.getD i9 (aA .cP))):Step Int Unit)else .br ()) 0 d.gi.length ())→x=0→∀i,i<d.gi.length→p5 c d.param (d.gi.getD i (aA .cP))=0:=fun hx aM=>by
  rw[hx]at aM;exact((ux (e:=fun i=>p5 c d.param (d.gi.getD i (aA .cP))) fun i hi=>rfl).1 aM).1
 cases ak:(d.param.kind==0)with
 |true=>
  rw[ak,cond_true]at h;obtain⟨aa,ae⟩:=lD (by decide) h
  exact⟨.inl ⟨by simpa using ak,by simpa using aa⟩,e3 rfl ae⟩
 |false=>
  rw[ak,cond_false]at h;obtain⟨aa,ae⟩:=wu h;exact⟨.inr aa,e3 rfl ae⟩
theorem p7.par{c:aK}(h:p7 c): ∀d∈c.commands,d.param.enum.length≤64:=fun d hd=>by
 obtain⟨j,af,rfl⟩:=List.mem_iff_getElem.1 hd
 have:=(YX (h.YT j af) af).1
 rw[List.getD_eq_getElem?_getD,List.getElem?_eq_getElem af]at this
 simp only[Option.getD_some]at this
 rcases this with⟨_,ae⟩|ae
 ·unfold uv at ae
  simp only[Bool.and_eq_true,beq_iff_eq]at ae;omega
 ·exact GA ae
theorem Cj{l:List aK}(h:nK l=0): ∀i,i<l.length→p7 (l.getD i (aA .aK))∧∀j,j<i→(l.getD j (aA .aK)).name≠(l.getD i (aA .aK)).name:=by
 unfold nK at h
 dsimp only at h
 obtain⟨_,h⟩:=lD (by decide) h
 simp only[toNat_cast]at h
 obtain⟨a1,_⟩:=(ux (e:=fun i=>bif(p6 (l.getD i (aA .aK)) != 0)then p6 (l.getD i (aA .aK))else bif(cl (fun j=>decide ((l.getD j (aA .aK)).name=(l.getD i (aA .aK)).name)) i).isSome then 9 else 0) fun i hi=>by
  rw[sF,List.length_take,Nat.min_eq_left (Nat.le_of_lt hi),Ci (fun a:aK=>a.name)]
  cases aS:(p6 (l.getD i (aA .aK)) != 0)with
  |true=>simp only[cond_true,aS]
  |false=>
   simp only[cond_false]
   cases (cl (fun j=>decide ((l.getD j (aA .aK)).name=(l.getD i (aA .aK)).name)) i).isSome<;>rfl).1 h
 intro i hi
 obtain⟨aa,ae⟩:=wu (a1 i hi)
 exact⟨YU aa,fun j af=>of_decide_eq_false (YV (lD (by decide) ae).1 j af)⟩
end Go.aL
namespace Go.aL
open Go Go.eL
def Ck(l:List aK):Prop:=∀i,i<l.length→∀j,j<i→(l.getD j (aA .aK)).name≠(l.getD i (aA .aK)).name
theorem Cl{l:List aK}(h:nK l=0):Ck l:=fun i hi=>(Cj h i hi).2
theorem YY{l:List aK}{x:ByteArray}:(hY (l.map fun c=>(c.name,c)) x=none∧∀c∈l,c.name≠x)∨∃(j:Nat) (c:aK),hY (l.map fun c=>(c.name,c)) x=some c∧l[j]? =some c∧c.name=x∧∀(i:Nat) (d:aK),i<j→l[i]? =some d→d.name≠x:=by
 induction l with
 |nil=>exact .inl ⟨rfl,by simp⟩
 |cons e r aY=>
  by_cases he:e.name=x
  ·exact .inr ⟨0,e,by simp[hY,he],rfl,he,fun i d hi=>absurd hi (by omega)⟩
  ·rcases aY with⟨aa,ae⟩|⟨j,c,aa,ae,au,aQ⟩
   ·exact .inl ⟨by simpa[hY,he]using aa,fun c hc=>by rcases List.mem_cons.1 hc with rfl|hc;exact he;exact ae c hc⟩
   ·refine .inr ⟨j+1,c,by simpa[hY,he]using aa,by simpa using ae,au,fun i d hi hd=>?_⟩
    cases i with
    |zero=>simp at hd;subst hd;exact he
    |succ i=>exact aQ i d (by omega) (by simpa using hd)
theorem zb{α:Type}{l:List α}{i:Nat}{a d:α}(h:l[i]? =some a):l.getD i d=a:=by
 rw[List.getD_eq_getElem?_getD,h];rfl
theorem PV{α:Type}{l:List α}{i:Nat}{a:α}(h:l[i]? =some a):i<l.length:=(List.getElem?_eq_some_iff.1 h).1
theorem YZ(l:List aK)(x:ByteArray):hY (l.map fun c=>(c.name,c)) x=(cl (fun i=>decide ((l.getD i (aA .aK)).name=x)) l.length).map fun i=>l.getD i (aA .aK):=by
 rcases YY (l:=l) (x:=x)with⟨aa,ae⟩|⟨j,c,aa,ae,au,aQ⟩
 ·rw[aa,wm fun j af=>decide_eq_false (ae _ (B8 af))]
  rfl
 ·rw[aa,y2 (PV ae) (by rw[zb ae];exact decide_eq_true au) fun i hi=>by
   have aq:i<l.length:=Nat.lt_trans hi (PV ae)
   have:=aQ i _ hi (List.getElem?_eq_getElem aq)
   rw[zb (List.getElem?_eq_getElem aq)]
   exact decide_eq_false this]
  show some c=some (l.getD j (aA .aK));rw[zb ae]
theorem Y0{l:List aK}{c:aK}(h: ∀d∈l,d.name≠c.name):jb (l.map fun c=>(c.name,c)) c.name c=(l++[c]).map fun c=>(c.name,c):=by
 induction l with
 |nil=>rfl
 |cons e r aY=>
  have he:e.name≠c.name:=h e (by simp)
  simp only[List.map_cons,List.cons_append,jb,if_neg he,aY fun d hd=>h d (by simp[hd])]
theorem PW{R A:Type}{b:Nat→A→Step R A}(s:Nat→A){n:Nat}(ad: ∀i,i<n→b i (s i)= .br (s (i+1))): ∀(m k:Nat),k+m=n→bo b k m (s k)= .inr (s n)
 |0,k,h=>by rw[show k=n by omega];rfl
 |m+1,k,h=>by
  unfold bo;rw[ad k (by omega)]
  exact PW s ad m (k+1) (by omega)
theorem Y1{h:Home}(hd:Ck h.bq):kC h=h.bq.map fun c=>(c.name,c):=by
 unfold kC
 dsimp only
 rw[toNat_cast,show([]:List (ByteArray × aK))=(h.bq.take 0).map fun c=>(c.name,c)from rfl,PW (fun k=>(h.bq.take k).map fun c=>(c.name,c)) (n:=h.bq.length) (fun i hi=>?_) _ 0 (by omega)]
 ·show(h.bq.take h.bq.length).map _=_
  rw[List.take_length]
 ·rw[toNat_cast]
  show Step.br (jb ((h.bq.take i).map fun c=>(c.name,c)) (h.bq.getD i (aA .aK)).name (h.bq.getD i (aA .aK)))=_;rw[Y0 fun d hm=>?_]
  ·rw[List.take_succ_eq_append_getElem hi,zb (List.getElem?_eq_getElem hi)]
  ·obtain⟨j,af,Y2⟩:=XD.1 hm
   have:=hd i hi j af
   rw[zb Y2]at this;exact this
theorem look_eq{h:Home}(hd:Ck h.bq)(x:ByteArray):jG .str (kC h) x=(cl (fun i=>decide ((h.bq.getD i (aA .aK)).name=x)) h.bq.length).map fun i=>h.bq.getD i (aA .aK):=by
 rw[Y1 hd]
 exact YZ _ _
theorem wv(h:Home)(x:ByteArray):lE h x=match cl (fun i=>decide ((h.bq.getD i (aA .aK)).name=x)) h.bq.length with|some i=>(i:Int)|none=> -1:=by
 unfold lE
 dsimp only
 rw[toNat_cast,iJ (p:=fun i=>decide ((h.bq.getD i (aA .aK)).name=x)) (F:=fun i=>(i:Int)) (fun i u=>by simp only[p2,toNat_cast])]
 all_goals cases cl (fun i=>decide ((h.bq.getD i (aA .aK)).name=x)) h.bq.length<;>rfl
theorem Y3{h:Home}(hd:Ck h.bq)(d:bw):ri h d=sH d (kC h):=by
 unfold ri sH
 dsimp only
 refine congrArg (cond _ 3) ?_
 refine el (fun i a _=>?_) fun _=>rfl
 rw[look_eq hd,wv,GG]
 unfold p3
 rw[toNat_cast]
 cases hf:cl (fun j=>decide ((h.bq.getD j (aA .aK)).name=d.bq.getD i (aA .str))) h.bq.length with
 |none=>rfl
 |some j=>
  dsimp only;rw[decide_eq_false (show ¬(j:Int)<0 by omega),toNat_cast]
  rfl
theorem Y4{q:Nat→Bool}{n:Nat}:(cl q (n+1)).isSome=((cl q n).isSome||q n):=by
 cases h:cl q n with
 |some i=>
  obtain⟨aa,ae,au⟩:=jY h;rw[y2 (by omega) ae au]
  rfl
 |none=>
  have h:=re h
  cases aI:q n with
  |true=>rw[y2 (Nat.lt_succ_self n) aI h];rfl
  |false=>
   rw[wm fun j af=>?_]
   ·rfl
   ·by_cases mU:j=n
    ·rw[mU];exact aI
    ·exact h j (by omega)
theorem Y5{K V:Type}[DecidableEq K](l:List (K × V))(k x:K)(v:V):hY (jb l k v) x=if k=x then some v else hY l x:=by
 induction l with
 |nil=>simp[jb,hY]
 |cons p r aY=>
  obtain⟨q,w⟩:=p
  by_cases aI:q=k
  ·subst aI
   by_cases hx:q=x<;>simp[jb,hY,hx]
  ·by_cases hx:q=x
   ·subst hx
    simp[jb,hY,aI,Ne.symm aI]
   ·simp only[jb,if_neg aI,hY,if_neg hx,aY]
theorem PX{R A:Type}{b:Nat→A→Step R A}{c:Nat→Unit→Step R Unit}{n:Nat}(I:Nat→A→Prop)
 (h: ∀k a,k<n→I k a→(∃r,b k a= .ret r∧c k ()= .ret r)∨(∃bc,b k a= .br bc∧c k ()= .br ()∧I (k+1) bc)):
 ∀(m k:Nat) (a:A),k+m=n→I k a→(∃r,bo b k m a= .inl r∧bo c k m ()= .inl r)∨(∃bc,bo b k m a= .inr bc∧bo c k m ()= .inr ())
 |0,k,a,_,_=>.inr ⟨a,rfl,rfl⟩
 |m+1,k,a,aj,a1=>by
  rcases h k a (by omega) a1 with⟨r,aa,ae⟩|⟨bc,aa,ae,au⟩
  ·exact .inl ⟨r,by simp only[bo,aa],by simp only[bo,ae]⟩
  ·have:=PX I h m (k+1) bc (by omega) au
   simpa only[bo,aa,ae]using this
theorem Y6(d:bw):wx d= !((((((decide (d.id<1))||(decide (d.id>250)))||(decide (d.oM<0)))||(decide (d.oM>255)))||((!d.oN)&&(d.k0 != 0)))||(d.oN&&((decide (d.k0<4))||(decide (d.k0>3600))))):=by
 unfold wx
 rw[Bool.eq_iff_iff]
 cases d.oN<;>simp only[cond_eq_ite]<;>split<;>simp_all<;>omega
theorem Cm(h:Home):p8 h=fT h:=by
 unfold p8 fT
 rw[PU]
 dsimp only
 cases aa:(nK h.bq != 0)with
 |true=>rfl
 |false=>
  have hd:=Cl (nJ aa)
  simp only[cond_false];refine congrArg (cond _ 3) ?_
  rw[toNat_cast]
  have key:=PX (n:=h.bm.length) (fun k a=>∀x:Int,(hY a x).getD false=(cl (fun j=>decide ((h.bm.getD j (aA .bw)).hh=x)) k).isSome) (b:=fun(i8:Nat) (aW:(List (Int × Bool)))=>
   bif(!(wx (h.bm.getD i8 (aA .bw))))then Step.ret (2:Int)else bif((decide ((i8:Int)>0))&&(decide ((h.bm.getD i8 (aA .bw)).id≤((List.getD h.bm (Int.toNat (IntKind.wrap .i64 ((i8:Int)-(1:Int)))) (aA .bw)).id))))then .ret 14
   else bif((jG (.int .u64) aW (h.bm.getD i8 (aA .bw)).hh).getD false)then .ret 9 else bif(!(ir (h.bm.getD i8 (aA .bw)).room))then .ret 10 else bif(sH (h.bm.getD i8 (aA .bw)) (kC h) != 0)then .ret (sH (h.bm.getD i8 (aA .bw)) (kC h))else .br (sI (.int .u64) aW (h.bm.getD i8 (aA .bw)).hh true))
   (c:=fun(i5:Nat) (_:Unit)=>bif(p9 h (i5:Int) != 0)then .ret (p9 h (i5:Int))else .br ()) ?_ h.bm.length 0 ([]:List (Int × Bool)) (by omega) (fun x=>rfl)
  ·rcases key with⟨r,b6,a2⟩|⟨bc,b6,a2⟩
   ·simp only[toNat_cast]
    rw[b6,a2];rfl
   ·simp only[toNat_cast]
    rw[b6,a2];rfl
  ·intro k a aj bW
   unfold p9;dsimp only;rw[toNat_cast];generalize Y7:h.bm.getD k (aA .bw)=d;rw[Y6,Bool.not_not,wg,we,Y3 hd];generalize ((((((decide (d.id<1))||(decide (d.id>250)))||(decide (d.oM<0)))||(decide (d.oM>255)))||((!d.oN)&&(d.k0 != 0)))||(d.oN&&((decide (d.k0<4))||(decide (d.k0>3600)))))=A
   have hX:decide ((List.getD h.bm (Int.toNat (IntKind.wrap .i64 ((k:Int)-(1:Int)))) (aA .bw)).id≥d.id)=decide (d.id≤(List.getD h.bm (Int.toNat (IntKind.wrap .i64 ((k:Int)-(1:Int)))) (aA .bw)).id):=rfl
   rw[hX];generalize (decide ((k:Int)>0)&&decide (d.id≤(List.getD h.bm (Int.toNat (IntKind.wrap .i64 ((k:Int)-(1:Int)))) (aA .bw)).id))=O
   have e3:(jG (.int .u64) a d.hh).getD false=(cl (fun j=>decide ((h.bm.getD j (aA .bw)).hh=d.hh)) k).isSome:=bW d.hh
   rw[e3,iJ (p:=fun j=>decide ((h.bm.getD j (aA .bw)).hh=d.hh)) (F:=fun _=>(9:Int)) (fun i u=>by simp only[toNat_cast]<;>rfl)]
   have step: ∀x:Int,(hY (jb (K:=Int) a d.hh true) x).getD false=(cl (fun j=>decide ((h.bm.getD j (aA .bw)).hh=x)) (k+1)).isSome:=fun x=>by
    rw[Y5,Y4,Y7]
    by_cases hx:d.hh=x
    ·rw[if_pos hx,decide_eq_true hx,Bool.or_true]
     rfl
    ·rw[if_neg hx,decide_eq_false hx,Bool.or_false]
     exact bW x
   cases A with
   |true=>exact .inl ⟨2,rfl,rfl⟩
   |false=>
    cases O with
    |true=>exact .inl ⟨14,rfl,rfl⟩
    |false=>
     cases cl (fun j=>decide ((h.bm.getD j (aA .bw)).hh=d.hh)) k with
     |some j=>exact .inl ⟨9,rfl,rfl⟩
     |none=>
      cases valid d.room with
      |false=>exact .inl ⟨10,rfl,rfl⟩
      |true=>
       cases aS:(sH d (kC h) != 0)with
       |true=>exact .inl ⟨_,rfl,by simp only[Bool.not_true,cond_false,cond_true,aS]⟩
       |false=>exact .inr ⟨_,rfl,by simp only[Bool.not_true,cond_false,aS],step⟩
end Go.aL
namespace Go.aL
open Go Go.eL
theorem wy{h:Home}(aM:fT h=0):nK h.bq=0:=by
 unfold fT at aM
 exact(wu aM).1
theorem Y8{h:Home}(aM:fT h=0)(x:ByteArray): ∀a∈((jG .str (kC h) x).getD (aA .aK)).attrs,a.enum.length≤64:=by
 rw[look_eq (Cl (wy aM))]
 cases hf:cl (fun i=>decide ((h.bq.getD i (aA .aK)).name=x)) h.bq.length with
 |none=>exact fun a a1=>by cases a1
 |some i=>exact(Cj (wy aM) i (jY hf).1).1.enum
theorem Cn(h:Home)(x:Int):ma h x=bif(fT h != 0)then(⟨0,0,0,false,0,⟨#[]⟩,[]⟩,false)else match cl (fun i=>(h.bm.getD i (aA .bw)).id==x) h.bm.length with|some i=>(h.bm.getD i (aA .bw),true)|none=>(⟨0,0,0,false,0,⟨#[]⟩,[]⟩,false):=by
 unfold ma
 dsimp only
 rw[toNat_cast,iJ (p:=fun i=>(h.bm.getD i (aA .bw)).id==x) (F:=fun i=>(h.bm.getD i (aA .bw),true)) (fun i u=>by simp only[toNat_cast])]
 all_goals refine congrArg (cond _ _) ?_
 all_goals cases cl (fun i=>(h.bm.getD i (aA .bw)).id==x) h.bm.length<;>rfl
theorem Y9{h:Home}{x:Int}(ae:(ma h x).2=true):fT h=0:=by
 rw[Cn]at ae
 cases aS:(fT h != 0)with
 |true=>rw[aS]at ae;cases ae
 |false=>exact nJ aS
theorem PY(h:Home)(k:di):Co h k:=by
 have key: ∀v6:Int,(((!(ma h k.dev).2)||(decide (v6<0)))=false→yY ((jG .str (kC h) k.dm).getD (aA .aK)) k.attr):=fun v6 aw=>by
  simp only[Bool.or_eq_false_iff,Bool.not_eq_false']at aw;exact PK (Y8 (Y9 aw.1) _)
 exact⟨GF _ _,fun _=>key _,fun _=>key _⟩
theorem Za(h:Home)(q:bu):Cp h q:=by
 unfold Cp
 repeat' (first|exact PY _ _|exact Gx _ _|intro _|refine And.intro ?_ ?_)
theorem Zb(h:Home)(x:Int)(n:ByteArray):GM h x n:=by
 refine⟨fun _ _=>True,trivial,fun i _ hi _=>⟨fun _=>⟨fun _=>?_,fun _=>trivial⟩,fun _=>⟨fun _=>?_,fun _=>trivial⟩⟩,fun _ _=>?_⟩
 all_goals
  exact fun _=>⟨fun _ _=>True,trivial,fun i _ hi _=>⟨fun _ _=>⟨by omega,by rw[toNat_cast]at hi;omega⟩,fun _=>trivial⟩,fun _ _ h=>absurd (of_decide_eq_false h) (by decide)⟩
theorem Zc{c:aK}(hc:p7 c)(x:ByteArray):GN c x:=by
 refine⟨fun _ _=>True,trivial,fun i _ hi _=>⟨fun _=>?_,fun _=>trivial⟩⟩
 rw[toNat_cast]at hi
 have hm:=B8 (d:=aA .Command) hi
 rw[toNat_cast]
 exact⟨Gv (by have:=hc.par _ hm;omega),Yx (by have:=hc.YW _ hm;omega)⟩
noncomputable def sJ(h:Home)(x:Int)(n:ByteArray):Nat→Bool:=fun i=>((h.bm.getD i (aA .bw)).id==x)&&iK (h.bm.getD i (aA .bw)).bq n
theorem PZ(h:Home)(x:Int)(n:ByteArray):rj h x n=bif(cl (sJ h x n) h.bm.length).isSome then(match cl (fun i=>decide ((h.bq.getD i (aA .aK)).name=n)) h.bq.length with|some i=>(h.bq.getD i (aA .aK),true)|none=>(⟨⟨#[]⟩,[],[],[]⟩,false))else(⟨⟨#[]⟩,[],[],[]⟩,false):=by
  unfold rj;dsimp only;rw[toNat_cast,toNat_cast]
  have k1: ∀v3:Int,0≤v3→(bif !(decide (v3≥0))then((⟨⟨#[]⟩,[],[],[]⟩:aK),false)else Sum.elim (fun r=>r) (fun _=>bif decide ((-1:Int)<0)then(⟨⟨#[]⟩,[],[],[]⟩,false)else(h.bq.getD (Int.toNat (-1)) (aA .aK),true))
      (bo (fun(i7:Nat) (_:Unit)=>bif(cN .eql ((List.getD h.bq (Int.toNat (i7:Int)) (aA .aK)).name) n)then(.ret (bif decide ((i7:Int)<0)then(⟨⟨#[]⟩,[],[],[]⟩,false)else(h.bq.getD (Int.toNat (i7:Int)) (aA .aK),true)):Step (aK × Bool) Unit)else .br ()) 0 h.bq.length ()))=(match cl (fun i=>decide ((h.bq.getD i (aA .aK)).name=n)) h.bq.length with|some i=>(h.bq.getD i (aA .aK),true)|none=>(⟨⟨#[]⟩,[],[],[]⟩,false)):=fun v3 au=>by
    rw[decide_eq_true au,iJ (p:=fun i=>decide ((h.bq.getD i (aA .aK)).name=n)) (F:=fun i=>(h.bq.getD i (aA .aK),true)) (fun i u=>by
      simp only[p2,toNat_cast]
      rw[decide_eq_false (show ¬(i:Int)<0 by omega),cond_false])]
    cases cl (fun i=>decide ((h.bq.getD i (aA .aK)).name=n)) h.bq.length<;>rfl
  rw[iJ (p:=sJ h x n) (F:=fun _=>(match cl (fun i=>decide ((h.bq.getD i (aA .aK)).name=n)) h.bq.length with|some i=>(h.bq.getD i (aA .aK),true)|none=>(⟨⟨#[]⟩,[],[],[]⟩,false))) (fun i u=>by
    unfold sJ;simp only[toNat_cast]
    cases (h.bm.getD i (aA .bw)).id==x with
    |false=>rfl
    |true=>
      simp only[cond_true,Bool.true_and]
      cases iK (h.bm.getD i (aA .bw)).bq n with
      |false=>rfl
      |true=>
        simp only[cond_true]
        have:=k1 (i:Int) (by omega)
        simp only[toNat_cast]at this
        rw[this])]
  cases cl (sJ h x n) h.bm.length<;>rfl
theorem Zd{h:Home}{x:Int}{n:ByteArray}(aM:fT h=0)(ae:(rj h x n).2=true):p7 (rj h x n).1:=by
 rw[PZ]at ae⊢
 cases aa:(cl (sJ h x n) h.bm.length).isSome with
 |false=>rw[aa]at ae;cases ae
 |true=>
  rw[aa]at ae;simp only[cond_true]at ae⊢
  cases hf:cl (fun i=>decide ((h.bq.getD i (aA .aK)).name=n)) h.bq.length with
  |none=>rw[hf]at ae;cases ae
  |some i=>exact(Cj (wy aM) i (jY hf).1).1
theorem Ze{h:Home}(aM:fT h=0)(q:bu):GO h q:=by
 refine⟨Zb _ _ _,fun ae=>⟨Zc (Zd aM ?_) _,fun _ _=>Gx _ _⟩⟩
 cases au:(rj h q.key.dev q.key.dm).2 with
 |true=>rfl
 |false=>rw[au]at ae;cases ae
theorem P0{h:Home}(aM:fT h=0)(q:bu):Cq h q:=by
 unfold Cq
 repeat' (first|exact Za _ _|exact Ze aM _|exact ra _|intro _|refine And.intro ?_ ?_)
theorem OR(h:Home)(q:bu):Cr h q:=by
 refine⟨GD h,fun aM _ _=>⟨fun _ _=>P0 (nJ aM) q,fun _ _=>P0 (nJ aM) q⟩⟩
end Go.aL
namespace Go.aL
open Go Go.eL
theorem Cs(a:Attr):uy a:=by
 unfold uy
 repeat' (first|exact trivial|exact sD _|(refine Exists.intro (fun _ _=>True) (And.intro trivial ?_);intro i _ hi _;refine⟨sD _,fun _=>⟨ur (by omega) (by rw[toNat_cast]at hi;omega),fun _=>trivial⟩⟩)|intro _|refine And.intro ?_ ?_)
theorem P1(x y:List ByteArray):Ct x y:=PL x y
theorem Zf(a b:Attr):GQ a b:=fun _=>P1 _ _
theorem P2(c:aK)(x:ByteArray):Cu c x:=by
 intro h
 have h:decide (oK c x<0)=false:=h
 show 0≤oK c x∧oK c x<(c.attrs.length:Int)
 rw[GK]at h⊢
 cases hf:cl (fun i=>decide ((c.attrs.getD i (aA .Attr)).name=x)) c.attrs.length with
 |none=>rw[hf]at h;cases h
 |some i=>
  have:=(jY hf).1
  dsimp only;omega
theorem GR(a:Attr)(v:cf):zc a v:=⟨Cs a,fun _=>Cs a⟩
theorem Zg(x:cP)(a b:Attr):Cv x a b:=by
 unfold Cv
 repeat' (first|exact GR _ _|exact P1 _ _|intro _|refine And.intro ?_ ?_)
theorem Zh(c:aK)(a:Attr)(x:cP):Cw c a x:=by
 unfold Cw
 repeat' (first|exact P2 _ _|exact Zg _ _ _|intro _|refine And.intro ?_ ?_)
theorem Zi{c:aK}{k:Nat}(aj:k<c.commands.length)(ad:k<1000000):GU c (k:Int):=by
 refine⟨⟨by omega,by omega⟩,sD _,fun _=>⟨⟨by omega,by omega⟩,⟨fun _ _=>True,trivial,fun i _ hi _=>⟨⟨by omega,?_⟩,fun _=>trivial⟩,fun _ _=>?_⟩⟩⟩
 ·rw[toNat_cast]at hi
  omega
 ·repeat' (first|exact trivial|exact Cs _|exact Zf _ _|exact Zh _ _ _|intro _|refine And.intro ?_ ?_|refine Exists.intro (fun _ _=>True) (And.intro trivial ?_))
theorem Zj{c:aK}(h:oL c=false):c.commands.length≤12∧c.events.length≤12:=by
 unfold oL at h
 dsimp only at h
 rw[toNat_cast,iJ (p:=fun i=>decide ((List.length ((List.getD c.commands i (aA .Command)).gi):Int)>12)) (F:=fun _=>true) (fun i u=>by simp only[toNat_cast])]at h
 cases hf:cl (fun i=>decide ((List.length ((List.getD c.commands i (aA .Command)).gi):Int)>12)) c.commands.length with
 |none=>
  rw[hf]at h;simp only[Bool.or_eq_false_iff,decide_eq_false_iff_not]at h;omega
 |some i=>rw[hf]at h;cases h
theorem Zk(c:aK):GV c:=by
 refine⟨sD _,fun _ hw=>?_⟩
 rw[PT]at hw
 obtain⟨aa,ae⟩:=Zj hw
 refine⟨fun _ _=>True,trivial,fun i _ hi _=>⟨Cs _,fun _ _=>trivial⟩,fun _ _=>⟨fun _ _=>True,trivial,fun i _ hi _=>⟨Zi (by rw[toNat_cast]at hi;omega) (by rw[toNat_cast]at hi;omega),fun _=>trivial⟩,fun _ _=>⟨fun _ _=>True,trivial,fun i _ hi _=>⟨sD _,fun _=>⟨⟨by omega,by rw[toNat_cast]at hi;omega⟩,⟨fun _ _=>True,trivial,fun j _ af _=>⟨⟨by omega,?_⟩,fun _=>trivial⟩,fun _ _=>trivial⟩⟩⟩⟩⟩⟩
 rw[toNat_cast]at hi af
 omega
theorem Zl(l:List aK):GX l:=by
 refine fun aq=>⟨fun _ _=>True,trivial,fun i _ hi _=>⟨Zk _,fun _=>⟨⟨by omega,?_⟩,⟨fun _ _=>True,trivial,fun j _ af _=>⟨⟨by omega,?_⟩,fun _=>trivial⟩,fun _ _=>trivial⟩⟩⟩⟩
 ·have aq:=of_decide_eq_false aq
  rw[toNat_cast]at hi;omega
 ·rw[toNat_cast]at hi af
  omega
theorem P3{h:Home}(ad:h.bq.length≤1000000)(x:ByteArray):Cx h x:=by
 show 0≤(h.bq.length:Int)∧(h.bq.length:Int)<9223372036854775808
 omega
theorem Zm{h:Home}{x:ByteArray}(aw:decide (lE h x<0)=false):0≤lE h x∧lE h x<(h.bq.length:Int):=by
 rw[wv]at aw⊢
 cases hf:cl (fun i=>decide ((h.bq.getD i (aA .aK)).name=x)) h.bq.length with
 |none=>rw[hf]at aw;cases aw
 |some i=>
  have:=(jY hf).1
  dsimp only;omega
theorem Zn{h:Home}(ad:h.bq.length≤1000000)(d:bw):GY h d:=
 fun _=>⟨fun _ _=>True,trivial,fun _ _ _ _=>⟨P3 ad _,fun aw _=>⟨Zm aw,trivial⟩⟩⟩
theorem Zo{h:Home}(ad:h.bq.length≤1000000){k:Nat}(aj:k<h.bm.length)(P4:k<1000000):GZ h (k:Int):=by
 refine⟨⟨by omega,by omega⟩,fun _=>⟨fun aw=>?_,fun _=>⟨⟨by omega,by omega⟩,⟨fun _ _=>True,trivial,fun i _ hi _=>⟨⟨by omega,by rw[toNat_cast]at hi;omega⟩,fun _=>trivial⟩,fun _ _=>⟨sD _,fun _=>Zn ad _⟩⟩⟩⟩⟩
 have aw:=of_decide_eq_true aw
 show 0≤IntKind.wrap .i64 ((k:Int)-1)∧IntKind.wrap .i64 ((k:Int)-1)<(h.bm.length:Int)
 rw[sE (by omega) (by omega)]
 omega
theorem Zp{l:List aK}(h:nK l=0):l.length≤256:=by
 unfold nK at h
 dsimp only at h
 have:=of_decide_eq_false (lD (by decide) h).1
 omega
theorem P5(h:Home):Cy h:=by
 refine⟨Zl _,fun aa au=>⟨fun _ _=>True,trivial,fun i _ hi _=>⟨?_,fun _=>trivial⟩⟩⟩
 have aa:=nJ aa
 rw[PU]at aa
 have au:=of_decide_eq_false au
 rw[toNat_cast]at hi
 exact Zo (by have:=Zp aa;omega) hi (by omega)
theorem P6(h:Home)(x:Int):qa h x=match cl (fun i=>(h.bm.getD i (aA .bw)).id==x) h.bm.length with|some i=>(i:Int)|none=> -1:=by
 unfold qa
 dsimp only
 rw[toNat_cast,iJ (p:=fun i=>(h.bm.getD i (aA .bw)).id==x) (F:=fun i=>(i:Int)) (fun i u=>by simp only[toNat_cast])]
 all_goals cases cl (fun i=>(h.bm.getD i (aA .bw)).id==x) h.bm.length<;>rfl
theorem G0{h:Home}(aM:fT h=0): ∀k,k<h.bm.length→p9 h (k:Int)=0:=by
 rw[←Cm]at aM
 unfold p8 at aM
 dsimp only at aM
 obtain⟨_,aM⟩:=wu aM
 obtain⟨_,aM⟩:=lD (by decide) aM
 simp only[toNat_cast]at aM
 exact((ux (e:=fun i=>p9 h (i:Int)) fun i hi=>rfl).1 aM).1
theorem G1{h:Home}(aM:fT h=0):h.bm.length≤20:=by
 unfold fT at aM
 dsimp only at aM
 obtain⟨_,aM⟩:=wu aM
 have:=of_decide_eq_false (lD (by decide) aM).1
 omega
theorem G2{h:Home}{k:Nat}(ad:k<1000000)(aS:p9 h (k:Int)=0):(0<k→(h.bm.getD (k-1) (aA .bw)).id<(h.bm.getD k (aA .bw)).id)∧ri h (h.bm.getD k (aA .bw))=0:=by
 unfold p9 at aS
 simp only[toNat_cast]at aS
 obtain⟨_,aS⟩:=lD (by decide) aS
 obtain⟨an,aS⟩:=lD (by decide) aS
 obtain⟨_,aS⟩:=(ux (e:=fun i=>bif((h.bm.getD i (aA .bw)).hh==(h.bm.getD k (aA .bw)).hh)then 9 else 0) fun i hi=>by
  cases ((h.bm.getD i (aA .bw)).hh==(h.bm.getD k (aA .bw)).hh)<;>rfl).1 aS
 obtain⟨_,aS⟩:=lD (by decide) aS
 refine⟨fun aj=>?_,aS⟩
 rw[decide_eq_true (show(k:Int)>0 by omega),Bool.true_and]at an
 have an:=of_decide_eq_false an
 rw[sE (by omega) (by omega),show((k:Int)-1).toNat=k-1 by omega]at an
 omega
theorem G3{h:Home}(aM:fT h=0): ∀j i,j<h.bm.length→i<j→(h.bm.getD i (aA .bw)).id<(h.bm.getD j (aA .bw)).id
 |0,_,_,h=>by omega
 |j+1,i,af,hi=>by
  have aq:=G1 aM
  have aa:=(G2 (by omega) (G0 aM (j+1) af)).1 (by omega)
  rw[Nat.add_sub_cancel]at aa
  by_cases oO:i=j
  ·rw[oO];exact aa
  ·have:=G3 aM j i (by omega) (by omega)
   omega
theorem P7{A:Type}{b:Nat→A→Step Int A}{g:A→Int}{n:Nat}(ad: ∀i a,(∃r,b i a= .ret r∧r≠0)∨∃bc,b i a= .br bc): ∀m k a,k+m=n→Sum.elim (fun r=>r) g (bo b k m a)=0→∀i,k≤i→i<n→∃a bc,b i a= .br bc
 |0,k,_,aj,_,i,aa,ae=>by omega
 |m+1,k,a,aj,aM,i,aa,ae=>by
  unfold bo at aM
  rcases ad k a with⟨r,ag,b4⟩|⟨bc,a1⟩
  ·rw[ag]at aM
   exact absurd aM b4
  ·rw[a1]at aM
   by_cases rk:i=k
   ·subst rk
    exact⟨a,bc,a1⟩
   ·exact P7 ad m (k+1) bc (by omega) aM i (by omega) ae
theorem Zq{h:Home}{d:bw}(aS:ri h d=0): ∀i,i<d.bq.length→∃j,cl (fun j=>decide ((h.bq.getD j (aA .aK)).name=d.bq.getD i (aA .str))) h.bq.length=some j:=by
 unfold ri at aS
 simp only[toNat_cast]at aS
 obtain⟨_,aS⟩:=lD (by decide) aS
 intro i hi
 obtain⟨a,bc,a1⟩:=P7 (n:=d.bq.length) (fun i a=>by
  cases decide (lE h (d.bq.getD i (aA .str))<0)with
  |true=>exact .inl ⟨8,rfl,by decide⟩
  |false=>
   cases decide (rf d.bq (d.bq.getD i (aA .str))<(i:Int))with
   |true=>exact .inl ⟨9,rfl,by decide⟩
   |false=>exact .inr ⟨_,rfl⟩) _ 0 _ (by omega) aS i (by omega) hi
 rw[wv]at a1
 cases hf:cl (fun j=>decide ((h.bq.getD j (aA .aK)).name=d.bq.getD i (aA .str))) h.bq.length with
 |some j=>exact⟨j,rfl⟩
 |none=>
  rw[hf]at a1;cases a1
theorem G4{h:Home}(aM:fT h=0){i:Nat}(hi:i<h.bm.length){n:ByteArray}(hm:decide (mT (h.bm.getD i (aA .bw)).bq n<0)=false): ∃j,cl (fun j=>decide ((h.bq.getD j (aA .aK)).name=n)) h.bq.length=some j:=by
 have aq:=G1 aM
 have hc:=Zq (G2 (by omega) (G0 aM i hi)).2
 rw[Cd]at hm
 cases hf:cl (fun k=>decide (n=(h.bm.getD i (aA .bw)).bq.getD k (aA .str))) (h.bm.getD i (aA .bw)).bq.length with
 |none=>rw[hf]at hm;cases hm
 |some k=>
  obtain⟨aa,ae,_⟩:=jY hf;rw[of_decide_eq_true ae];exact hc k aa
theorem P8{h:Home}(ad:h.bq.length≤1000000)(hd:h.bm.length≤1000000)(x:Int)(n:ByteArray):Cz h x n:=by
 refine⟨⟨by omega,by omega⟩,?_⟩
 intro v4
 cases aw:v4 with
 |true=>exact⟨fun _=>⟨(fun h=>by cases h),fun _ h=>(by cases h),fun h=>(by cases h)⟩,fun h=>by cases h⟩
 |false=>
  have aw:decide (qa h x<0)=false:=aw
  have ag:0≤qa h x∧qa h x<(h.bm.length:Int):=by
   rw[P6]at aw⊢
   cases hf:cl (fun i=>(h.bm.getD i (aA .bw)).id==x) h.bm.length with
   |none=>rw[hf]at aw;cases aw
   |some i=>
    have:=(jY hf).1
    dsimp only;omega
  refine⟨(fun h=>by cases h),fun _=>⟨P5 h,fun ea=>ag,fun ea gF=>?_,fun ea gF=>?_⟩⟩
  ·rw[ea]at gF
   cases gF
  ·refine⟨P3 ad _,?_⟩
   have ea:(false||(p8 h != 0))=false:=ea
   rw[ea]at gF
   have aM:p8 h=0:=by simpa using ea
   rw[Cm]at aM
   have gF:decide (rf (h.bm.getD (Int.toNat (qa h x)) (aA .bw)).bq n<0)=false:=gF
   rw[GG]at gF;obtain⟨j,af⟩:=G4 aM (i:=Int.toNat (qa h x)) (by omega) gF
   show 0≤lE h n∧lE h n<(h.bq.length:Int);rw[wv,af]
   have:=(jY af).1
   dsimp only;omega
theorem Zr{h:Home}(ad:h.bq.length≤1000000)(hd:h.bm.length≤1000000)(k:di):G5 h k:=⟨P8 ad hd _ _,fun _=>P2 _ _⟩
theorem Zs{h:Home}(ad:h.bq.length≤1000000)(hd:h.bm.length≤1000000)(q:bu):G6 h q:=⟨Zr ad hd _,fun _ _ _=>GR _ _⟩
theorem Zt{h:Home}(ad:h.bq.length≤1000000)(hd:h.bm.length≤1000000)(q:bu):G7 h q:=⟨P8 ad hd _ _,fun _ _ _=>GR _ _⟩
theorem Xz{h:Home}(ad:h.bq.length≤1000000)(hd:h.bm.length≤1000000)(q:bu):CA h q:=by
 unfold CA
 repeat' (first|exact trivial|exact P5 _|exact Zs ad hd _|exact Zt ad hd _|exact sD _|intro _|refine And.intro ?_ ?_)
end Go.aL
namespace Go.aL
open Go Go.eL
theorem P9(h:Home)(x:Int)(n:ByteArray):sK h x n=bif(fT h != 0)then(⟨⟨#[]⟩,[],[],[]⟩,false)else match cl (fun i=>(h.bm.getD i (aA .bw)).id==x) h.bm.length with
 |none=>(⟨⟨#[]⟩,[],[],[]⟩,false)
 |some i=>bif decide (mT (h.bm.getD i (aA .bw)).bq n<0)then(⟨⟨#[]⟩,[],[],[]⟩,false)else(h.bq.getD (Int.toNat (lE h n)) (aA .aK),true):=by
 unfold sK
 rw[P6,Cm]
 dsimp only
 cases hf:cl (fun i=>(h.bm.getD i (aA .bw)).id==x) h.bm.length with
 |none=>
  cases fT h != 0<;>rfl
 |some i=>
  dsimp only;rw[decide_eq_false (show ¬(i:Int)<0 by omega),toNat_cast,GG]
  cases fT h != 0<;>rfl
theorem Zu{q:Nat→Bool}{n i:Nat}(hi:i<n)(aI:q i=true):(cl q n).isSome=true:=by
 cases h:cl q n with
 |none=>rw[re h i hi]at aI;cases aI
 |some j=>rfl
theorem Qa(l:List ByteArray)(x:ByteArray):iK l x= !decide (mT l x<0):=by
 unfold iK
 by_cases h:mT l x<0
 ·rw[decide_eq_true h]
  exact decide_eq_false (by omega)
 ·rw[decide_eq_false h]
  exact decide_eq_true (by omega)
theorem Zv{h:Home}(aM:fT h=0){i j:Nat}(hi:i<h.bm.length)(af:j<h.bm.length)(he:(h.bm.getD i (aA .bw)).id=(h.bm.getD j (aA .bw)).id):i=j:=by
 rcases Nat.lt_trichotomy i j with aa|aa|aa
 ·have:=G3 aM j i af aa
  omega
 ·exact aa
 ·have:=G3 aM i j hi aa
  omega
theorem Zw{h:Home}(aM:fT h=0)(x:Int)(n:ByteArray):sK h x n=rj h x n:=by
 rw[P9,PZ,aM]
 show(match cl (fun i=>(h.bm.getD i (aA .bw)).id==x) h.bm.length with
  |none=>((⟨⟨#[]⟩,[],[],[]⟩:aK),false)
  |some i=>bif decide (mT (h.bm.getD i (aA .bw)).bq n<0)then((⟨⟨#[]⟩,[],[],[]⟩:aK),false)else(h.bq.getD (Int.toNat (lE h n)) (aA .aK),true))=_
 cases hf:cl (fun i=>(h.bm.getD i (aA .bw)).id==x) h.bm.length with
 |none=>
  rw[wm fun j af=>?_]
  ·rfl
  ·have:=re hf j af
   unfold sJ;rw[this];rfl
 |some i=>
  obtain⟨aa,ae,_⟩:=jY hf
  have ae:(h.bm.getD i (aA .bw)).id=x:=by simpa using ae
  dsimp only
  cases hm:decide (mT (h.bm.getD i (aA .bw)).bq n<0)with
  |true=>
   rw[wm fun j af=>?_]
   ·rfl
   ·unfold sJ
    cases hx:(h.bm.getD j (aA .bw)).id==x with
    |false=>rfl
    |true=>
     have hx:(h.bm.getD j (aA .bw)).id=x:=by simpa using hx
     obtain rfl:=Zv aM af aa (by rw[hx,ae])
     rw[Qa,hm];rfl
  |false=>
   obtain⟨j,af⟩:=G4 aM aa hm;rw[Zu aa (by unfold sJ;rw[ae,Qa,hm];simp),wv,af]
   rfl
theorem find_eq(h:Home)(k:di):zd h k=uz h k:=by
 unfold zd uz
 rw[P9,Cn]
 cases aS:(fT h != 0)with
 |true=>rfl
 |false=>
  have aM:=nJ aS
  simp only[cond_false]
  cases hf:cl (fun i=>(h.bm.getD i (aA .bw)).id==k.dev) h.bm.length with
  |none=>rfl
  |some i=>
   obtain⟨aa,_,_⟩:=jY hf;unfold p3;simp only
   cases hm:decide (mT (h.bm.getD i (aA .bw)).bq k.dm<0)with
   |true=>rfl
   |false=>
    obtain⟨j,af⟩:=G4 aM aa hm;rw[look_eq (Cl (wy aM)),wv,af];simp only[cond_false,Option.map_some,Option.getD_some,toNat_cast,PS,PR,Bool.not_true,Bool.or_false]
    cases cl (fun i=>decide (((h.bq.getD j (aA .aK)).attrs.getD i (aA .Attr)).name=k.attr)) (h.bq.getD j (aA .aK)).attrs.length<;>rfl
theorem Zx(h:Home)(q:bu):CB h q=CC h q:=by
 unfold CB CC
 simp only[find_eq,GI]
theorem Zy(c:aK)(x:ByteArray):ze c x=zf c x:=by
 unfold ze zf
 exact el (fun _ _ _=>rfl) fun _=>rfl
theorem Zz{h:Home}(aM:fT h=0)(q:bu):CD h q=CE h q:=by
 unfold CD CE
 simp only[Zw aM,GI,Zy]
theorem ZA{q:bu}(aj:1≤q.kind∧q.kind≤7):(bif q.kind==(mb q).kind then bif q.dz==(mb q).dz then bif q.key.dev==(mb q).key.dev then bif dF q.key.dm (mb q).key.dm then bif dF q.key.attr (mb q).key.attr then bif dF q.name (mb q).name then bif q.value.kind==(mb q).value.kind then bif q.value.n==(mb q).value.n then bif dF q.value.s (mb q).value.s then dF q.text (mb q).text else false else false else false else false else false else false else false else false else false)=wz q:=by
 obtain⟨kind,dz,⟨dev,eP,at_⟩,name,⟨zjF,zjG,vs⟩,text⟩:=q
 have aj:kind=1∨kind=2∨kind=3∨kind=4∨kind=5∨kind=6∨kind=7:=by
  have aa:1≤kind∧kind≤7:=aj
  omega
 rcases aj with rfl|rfl|rfl|rfl|rfl|rfl|rfl
 all_goals
  rw[Bool.eq_iff_iff];simp[mb,wz,p2,PN,vV]
  try grind
theorem XB(h:Home)(q:bu):zg h q=mM h q:=by
 unfold zg mM wa wb
 rw[Cm]
 dsimp only
 cases aS:(fT h != 0)with
 |true=>rfl
 |false=>
  have aM:=nJ aS
  simp only[cond_false]
  cases aj:((decide (q.kind<1))||(decide (q.kind>7)))with
  |true=>rfl
  |false=>
   have rm:1≤q.kind∧q.kind≤7:=by
    simp only[Bool.or_eq_false_iff,decide_eq_false_iff_not]at aj;omega
   rw[ZA rm];simp only[cond_false]
   cases ((decide (q.dz<0))||(decide (q.dz>1099511627776)))with
   |true=>rfl
   |false=>
    cases wz q with
    |false=>rfl
    |true=>
     have: ∀z:Int,z=bif(z != 0)then z else 0:=fun z=>by
      cases aS:(z != 0)with
      |true=>rfl
      |false=>exact nJ aS
     refine Eq.trans ?_ (this (zh h q))
     unfold zh;simp only[Zx,Zz aM,wg,we]
     cases q.kind==1<;>rfl
end Go.aL
namespace Go.aL
open Go Go.eL
theorem G8{b:ByteArray}{a c:Option Int}:(mV b a c).size≤b.size:=by
 cases a<;>cases c<;>simp only[mV,ByteArray.size_extract]<;>omega
theorem ZB(x:ByteArray)(z:Int): ∃n:Nat,ej x z=(n:Int)∧n<256:=⟨_,rfl,UInt8.toNat_lt _⟩
theorem ZC{R A B:Type}{Q:B→Prop}{f:R→B}{g:A→B}{l:R⊕A}(aa: ∀r,l= .inl r→Q (f r))(ae: ∀a,l= .inr a→Q (g a)):Q (Sum.elim f g l):=by
 cases l with
 |inl r=>exact aa r rfl
 |inr a=>exact ae a rfl
theorem ZD{R A:Type}{b:A→Step R A}{Q:R→Prop}(h: ∀a r,b a= .ret r→Q r): ∀(n:Nat) (a:A) (r:R),c5 b n a= .inl r→Q r:=by
 intro n
 induction n with
 |zero=>intro a r h;simp[c5]at h
 |succ n aY=>
  intro a r ag;unfold c5 at ag
  split at ag
  ·rename_i eQ ad
   cases ag;exact h _ _ ad
  ·cases ag
  ·exact aY _ _ ag
theorem ZE{R A:Type}{b:A→Step R A}{I:A→Prop}(h: ∀a,I a→(∀bc,b a= .br bc→I bc)∧∀bc,b a= .cO bc→I bc): ∀(n:Nat) (a bc:A),I a→c5 b n a= .inr bc→I bc:=by
 intro n
 induction n with
 |zero=>intro a bc bW h;simp[c5]at h;exact h ▸ bW
 |succ n aY=>
  intro a bc bW ag;unfold c5 at ag
  split at ag
  ·cases ag
  ·rename_i a2 ad
   cases ag;exact(h a bW).2 _ ad
  ·rename_i a2 ad
   exact aY _ _ ((h a bW).1 _ ad) ag
theorem Qb(z:Int):zi z:=by
 unfold zi
 decide
theorem Qc(l:List Int)(v:Int):(List.append l [v]).length=l.length+1:=by
 show(l++[v]).length=_
 rw[List.length_append]
 rfl
theorem ZF{x:ByteArray}(hx:fg x):CF x:=by
 unfold fg at hx
 unfold CF
 intro v1 h
 have h:(bA .rem .i64 (x.size:Int) 2 != 0)=false:=h
 have h:(x.size:Int).tmod 2=0:=by simpa[bA]using h
 have aI:bA .quo .i64 (x.size:Int) 2=((x.size/ 2:Nat):Int):=by
  show IntKind.wrap .i64 ((x.size:Int).tdiv 2)=_;rw[Int.tdiv_eq_ediv_of_nonneg (by omega),gR _ (by omega) (by omega)]
  omega
 refine⟨?_,fun d=>0≤d.1∧d.1≤(x.size:Int)∧d.1%2=0∧(d.2.length:Int)≤d.1,fun d=>x.size-d.1.toNat,⟨Int.le_refl _,by show(0:Int)≤_;omega,rfl,Int.le_refl _⟩,?_,?_⟩
 ·show 0≤(0:Int)∧(0:Int)≤bA .quo .i64 (x.size:Int) 2∧bA .quo .i64 (x.size:Int) 2≤(maxLen:Int)∧(1:Int)*bA .quo .i64 (x.size:Int) 2≤281474976710656
  rw[aI];unfold maxLen;omega
 ·show x.size-Int.toNat 0<18446744073709551616
  omega
 ·intro d0 hd
  obtain⟨d1,d2,d3,d4⟩:=hd;intro bH
  have bH:d0.1<(x.size:Int):=of_decide_eq_true bH
  rw[Int.tmod_eq_emod_of_nonneg (by omega)]at h
  have cK:IntKind.wrap .i64 (d0.1+1)=d0.1+1:=gR _ (by omega) (by omega)
  have dI:IntKind.wrap .i64 (d0.1+2)=d0.1+2:=gR _ (by omega) (by omega)
  refine⟨⟨d1,bH⟩,?_,Qb _,Qb _,fun _=>⟨⟨?_,?_⟩,⟨?_,?_,?_,?_⟩,?_⟩⟩
  ·show 0≤IntKind.wrap .i64 (d0.1+1)∧IntKind.wrap .i64 (d0.1+1)<_
   rw[cK];omega
  ·show d0.2.length+1≤maxLen
   unfold maxLen;omega
  ·show(d0.2.length+1)*1≤_
   omega
  ·show 0≤IntKind.wrap .i64 (d0.1+2)
   rw[dI];omega
  ·show IntKind.wrap .i64 (d0.1+2)≤_
   rw[dI];omega
  ·show IntKind.wrap .i64 (d0.1+2)%2=0
   rw[dI];omega
  ·show((List.append d0.2 [_]).length:Int)≤IntKind.wrap .i64 (d0.1+2)
   rw[dI,Qc];omega
  ·show x.size-(IntKind.wrap .i64 (d0.1+2)).toNat<x.size-d0.1.toNat
   rw[dI];omega
theorem ZG{x:ByteArray}(hx:fg x):(oP x).1.size≤x.size+1:=by
 unfold fg at hx
 unfold oP
 dsimp only
 cases ((bA .rem .i64 (x.size:Int) (2:Int)) != 0)with
 |true=>exact Nat.zero_le _
 |false=>
  simp only[cond_false];refine ZC (Q:=fun r:ByteArray × Int=>r.1.size≤x.size+1) (fun r ag=>?_) (fun c hc=>?_)
  ·have:r=(⟨#[]⟩,4):=by
    refine ZD (Q:=fun r=>r=(⟨#[]⟩,4)) ?_ _ _ _ ag
    intro a r h;revert h;simp only[cond_eq_ite]
    repeat' split
    ·intro h;cases h;rfl
    ·intro h;cases h
    ·intro h;cases h
   rw[this];exact Nat.zero_le _
  ·have:0≤c.1∧c.1≤(x.size:Int)+1∧(c.2.length:Int)≤c.1:=by
    refine ZE (I:=fun c:Int × List Int=>0≤c.1∧c.1≤(x.size:Int)+1∧(c.2.length:Int)≤c.1) ?_ _ _ _ ⟨Int.le_refl _,by show(0:Int)≤_;omega,Int.le_refl _⟩ hc
    intro a a1;obtain⟨b6,a2,a3⟩:=a1
    cases bH:decide (a.1<(x.size:Int))with
    |false=>
     simp only[cond_false];refine⟨fun bc h=>(by cases h),fun bc h=>?_⟩
     cases h;exact⟨b6,a2,a3⟩
    |true=>
     have bH:=of_decide_eq_true bH
     simp only[cond_true]
     have dI:IntKind.wrap .i64 (a.1+2)=a.1+2:=gR _ (by omega) (by omega)
     rw[dI];simp only[cond_eq_ite]
     split
     ·exact⟨fun bc h=>(by cases h),fun bc h=>(by cases h)⟩
     ·refine⟨fun bc h=>?_,fun bc h=>(by cases h)⟩
      cases h;refine⟨?_,?_,?_⟩
      ·show 0≤a.1+2;omega
      ·show a.1+2≤_;omega
      ·show((List.append a.2 [_]).length:Int)≤a.1+2
       rw[Qc];omega
   show(bytesOf c.2).size≤_;rw[ub];omega
theorem fg.str{x:ByteArray}(h:fg x){a b:Option Int}:fg (mV x a b):=by
 unfold fg at h⊢
 have:=G8 (b:=x) (a:=a) (c:=b)
 omega
theorem ZH: ∀n:Nat,n<256→(0≤bA .shr .u8 (n:Int) 4∧bA .shr .u8 (n:Int) 4<16)∧(0≤bA .and .u8 (n:Int) 15∧bA .and .u8 (n:Int) 15<16)∧(0≤bA .quo .u8 (n:Int) 16∧bA .quo .u8 (n:Int) 16<16)∧(0≤bA .rem .u8 (n:Int) 16∧bA .rem .u8 (n:Int) 16<16):=by decide+kernel
theorem ZI{d l:List Int}{k:Nat}(hd:d.length≤2*k)(aq:l.length≤2)(aj:k<1000001):(List.length d+List.length l≤maxLen∧(List.length d+List.length l)*1≤140737488355328)∧(List.append d l).length≤2*(k+1):=by
 refine⟨⟨by unfold maxLen;omega,by omega⟩,?_⟩
 show(d++l).length≤_
 rw[List.length_append]
 omega
theorem ZJ{x:ByteArray}(h:x.size≤1000000):G9 x:=by
 refine⟨⟨by omega,by omega⟩,fun i d=>d.length≤2*i,Nat.zero_le _,fun i d hi hd=>?_⟩
 have hi:i<x.size:=by rwa[Int.toNat_natCast]at hi
 obtain⟨n,hn,ad⟩:=ZB x (i:Int)
 obtain⟨_,_,gV,gv⟩:=ZH n ad
 rw[hn]
 exact⟨gV,gv,ZI hd (Nat.le_refl _) (by omega)⟩
def sL(x:ByteArray):Prop:=x.size≤30000
theorem sL.wA{x:ByteArray}(h:sL x):fg x:=by unfold sL at h;unfold fg;omega
theorem wB(a b:ByteArray):ByteArray.size (ByteArray.append a b)=a.size+b.size:=ByteArray.size_append
theorem ZK{x:ByteArray}(h:x.size≤4000000):Ha x:=by
 show 0≤(x.size:Int)∧(x.size:Int)<9223372036854775808
 omega
theorem ZL(n:Int){x:ByteArray}(h:x.size≤2000000):CG n x:=by
 unfold CG
 simp only[wB,ub,List.length_cons,List.length_nil]
 refine⟨by omega,by omega,ZK ?_⟩
 simp only[wB,ub,List.length_cons,List.length_nil]
 omega
theorem ZM(n:Int){x:ByteArray}(h:x.size≤1000000):Hb n x:=by
 intro aQ
 have aQ:=of_decide_eq_false aQ
 have aw:IntKind.wrap .i64 ((x.size:Int)-4)=(x.size:Int)-4:=sE (by omega) (by omega)
 rw[aw]
 have ai:=G8 (b:=x) (a:=none) (c:=some ((x.size:Int)-4))
 refine⟨⟨by omega,by omega⟩,ZL n (by omega),⟨by omega,?_⟩⟩
 show((mV x none (some ((x.size:Int)-4))).size:Int)≤(x.size:Int)
 omega
theorem ZN(n:Int)(x:ByteArray):(qb n x).1.size≤x.size:=by
 unfold qb
 dsimp only
 cases decide ((x.size:Int)<4)with
 |true=>exact Nat.zero_le _
 |false=>
  simp only[cond_false];generalize hc:cN .neq _ _=c
  cases c with
  |true=>exact Nat.zero_le _
  |false=>exact(G8 (b:=x) (a:=none) (c:=some (IntKind.wrap .i64 ((x.size:Int)-4))))
theorem ZO(n:Int){x:ByteArray}(h:sL x):Hc n x:=by
 have aa:=ZG h.wA
 have ae:=ZN n (oP x).1
 unfold sL at h
 have aq:dx (qb n (oP x).1).1:=by unfold dx;omega
 have aq:dx (⟨(qb n (oP x).1).1,0,true⟩:Rd).rest:=aq
 have aB:=q6 (n:=24) aq
 have sM:dx (hI ⟨(qb n (oP x).1).1,0,true⟩ 24).1.rest:=by rw[aB];exact yP aq
 have CH:dx (gr (hI ⟨(qb n (oP x).1).1,0,true⟩ 24).1).1.rest:=by rw[nC sM];exact pT sM
 have ZP:dx (gr (gr (hI ⟨(qb n (oP x).1).1,0,true⟩ 24).1).1).1.rest:=by rw[nC CH];exact pT CH
 exact⟨ZF (by unfold fg;omega),fun _=>⟨ZM n (by omega),fun _=>⟨sB aq,oE sM,oE CH,oE ZP,fun _=>ra _⟩⟩⟩
theorem ZQ(n:Int){x:ByteArray}(h:sL x)(now:Int)(l:List Int):Hd n x now l:=ZO n h
theorem Qd(n:Int):CI n:=by
 refine⟨fun d=> -1≤d.2∧d.2≤7∧(d.1.size:Int)≤7-d.2,fun d=>(d.2+1).toNat,⟨by decide,by decide,by decide⟩,by decide,fun d hd aM=>?_⟩
 obtain⟨aa,ae,au⟩:=hd
 have aM:=of_decide_eq_true aM
 have aB:IntKind.wrap .u64 d.2=d.2:=by rw[pQ];omega
 have bf:IntKind.wrap .u64 (8*d.2)=8*d.2:=by rw[pQ];omega
 have ck:IntKind.wrap .i64 (d.2-1)=d.2-1:=sE (by omega) (by omega)
 simp only[aB,bf,ck,wB,ub,List.length_cons,List.length_nil]
 refine⟨by omega,by omega,⟨by omega,by omega,by omega⟩,by omega⟩
def He(n:Int):ByteArray:=bytesOf [(IntKind.wrap .u8 (bA .shr .u64 n (56:Int))),(IntKind.wrap .u8 (bA .shr .u64 n (48:Int))),(IntKind.wrap .u8 (bA .shr .u64 n (40:Int))),(IntKind.wrap .u8 (bA .shr .u64 n (32:Int))),(IntKind.wrap .u8 (bA .shr .u64 n (24:Int))),(IntKind.wrap .u8 (bA .shr .u64 n (16:Int))),(IntKind.wrap .u8 (bA .shr .u64 n (8:Int))),(IntKind.wrap .u8 (bA .shr .u64 n (0:Int)))]
theorem ZR(n:Int):wC n=He n:=by kernel_rfl
theorem Qe(n:Int):(He n).size=8:=by
 unfold He
 rw[ub]
 rfl
theorem ZS(n:Int){x:ByteArray}(h:x.size≤2000000):CJ n x:=by
 unfold CJ
 simp only[ZR,wB,Qe]
 refine⟨Qd n,by omega,Qd n,by omega,?_⟩
 show 0≤(ByteArray.size _:Int)∧(ByteArray.size _:Int)<9223372036854775808
 simp only[wB,Qe]
 omega
theorem ZT(n:Int){x:ByteArray}(h:x.size≤2000000):Hf n x:=by
 refine⟨ZS n h,?_⟩
 show x.size+(zj (CK n x)).size≤_
 unfold zj
 rw[ub]
 simp only[List.length_cons,List.length_nil]
 omega
end Go.aL
namespace Go.aL
open Go Go.eL
theorem ZU(h:Home){l:List cx}{k:Nat}(aj:k<l.length):CL h l (k:Int):=by
 have ai:ja l.length none (some (k:Int)):=ur (by omega) (by omega)
 have aM:0≤(k:Int):=by omega
 have aa:(k:Int)<(l.length:Int):=by omega
 unfold CL
 repeat' (first|exact trivial|exact aM|exact aa|exact ai|exact ra _|intro _|refine And.intro ?_ ?_|refine Exists.intro (fun _ _=>True) (And.intro trivial ?_))
theorem ZV(h:Home)(l:List cx):Hg h l:=by
 refine⟨GD h,fun _ _=>⟨fun _ _=>True,trivial,fun i _ hi _=>⟨ZU h (by rw[toNat_cast]at hi;omega),fun _=>trivial⟩⟩⟩
def CM(l:List cx):Prop:=∀m∈l,m.nL.length≤1000000∧m.fZ.length≤1000000
theorem ZW{l:List cx}(aq:CM l)(x:ByteArray):Hh l x:=by
 refine⟨fun _ _=>True,trivial,fun i _ hi _=>⟨fun _=>?_,fun _=>trivial⟩⟩
 rw[toNat_cast]at hi⊢
 obtain⟨aa,ae⟩:=aq _ (B8 (d:=aA .cx) hi)
 refine⟨?_,Gv ae⟩
 unfold Hi maxLen
 omega
theorem ZX(h:Home)(x:Int):rn h x:=GF h x
theorem ZY(h:Home)(k:di):CN h k:=PY h k
theorem ZZ{h:Home}{d:bw}(aS:ri h d=0):d.bq.length≤4:=by
 unfold ri at aS
 dsimp only at aS
 have:=(lD (by decide) aS).1
 simp only[Bool.or_eq_false_iff,decide_eq_false_iff_not]at this
 omega
theorem Z0(h:Home)(x:Int):(ma h x).1.bq.length≤4:=by
 rw[Cn]
 cases aS:(fT h != 0)with
 |true=>exact Nat.zero_le _
 |false=>
  have aM:=nJ aS
  simp only[cond_false]
  cases hf:cl (fun i=>(h.bm.getD i (aA .bw)).id==x) h.bm.length with
  |none=>exact Nat.zero_le _
  |some i=>
   have hi:=(jY hf).1
   have aq:=G1 aM
   exact ZZ (G2 (by omega) (G0 aM i hi)).2
theorem Z1{h:Home}{x:Int}{i:Nat}(hi:i<(ma h x).1.bq.length):fT h=0:=by
 rw[Cn]at hi
 cases aS:(fT h != 0)with
 |true=>rw[aS]at hi;exact absurd hi (Nat.not_lt_zero _)
 |false=>exact nJ aS
theorem Z2{c:aK}(h:oL c=false):c.attrs.length≤12:=by
 unfold oL at h
 dsimp only at h
 rw[toNat_cast,iJ (p:=fun i=>decide ((List.length ((List.getD c.commands i (aA .Command)).gi):Int)>12)) (F:=fun _=>true) (fun i u=>by simp only[toNat_cast])]at h
 cases hf:cl (fun i=>decide ((List.length ((List.getD c.commands i (aA .Command)).gi):Int)>12)) c.commands.length with
 |none=>
  rw[hf]at h;simp only[Bool.or_eq_false_iff,decide_eq_false_iff_not]at h;omega
 |some i=>rw[hf]at h;cases h
theorem Z3{h:Home}(aM:fT h=0)(x:ByteArray):((jG .str (kC h) x).getD (aA .aK)).attrs.length≤12:=by
 rw[look_eq (Cl (wy aM))]
 cases hf:cl (fun i=>decide ((h.bq.getD i (aA .aK)).name=x)) h.bq.length with
 |none=>exact Nat.zero_le _
 |some i=>exact Z2 (Cj (wy aM) i (jY hf).1).1.wide
theorem Z4{α:Type}(l:List α)(v:α):(List.append l [v]).length=l.length+1:=by
 show(l++[v]).length=_
 rw[List.length_append]
 rfl
theorem Z5(h:Home)(x:Int):Hj h x:=by
 refine⟨GF h x,fun k d=>d.length≤12*k,Nat.zero_le _,fun i d hi hd=>?_⟩
 rw[toNat_cast]at hi
 have aQ:=Z0 h x
 have aM:=Z1 hi
 have zjH:=Z3 aM ((ma h x).1.bq.getD (Int.toNat (i:Int)) (aA .str))
 refine⟨fun j e=>e.length≤12*i+j,by show d.length≤_;omega,fun j e af he=>?_,fun c hc=>?_⟩
 ·rw[toNat_cast]at af
  have he:e.length≤12*i+j:=he
  refine⟨?_,?_⟩
  ·show e.length+1≤maxLen∧(e.length+1)*40≤140737488355328
   unfold maxLen;omega
  ·show(List.append e [_]).length≤_
   rw[Z4];omega
 ·rw[toNat_cast]at hc
  have hc:c.length≤12*i+_:=hc
  show c.length≤12*(i+1);omega
theorem Z6(h:Home)(q:bu):wD h q:=by
 unfold wD
 repeat' (first|exact trivial|exact ZY _ _|exact Z5 _ _|intro _|refine And.intro ?_ ?_|refine Exists.intro (fun _ _=>True) (And.intro trivial ?_))
theorem Z7(h:Home)(m:cx)(w:Int)(q:bu):CO h m w q:=by
 unfold CO
 repeat' (first|exact trivial|exact ZX _ _|exact Z6 _ _|intro _|refine And.intro ?_ ?_|refine Exists.intro (fun _ _=>True) (And.intro trivial ?_))
theorem Z8(h:Home){l:List cx}(aq:CM l)(x:ByteArray)(w:Int)(q:bu):Hk h l x w q:=⟨ZV h l,fun _=>⟨ZW aq x,fun _=>Z7 _ _ _ _⟩⟩
theorem Z9(l:List cI)(x:ByteArray):jZ l x=match cl (fun i=>decide ((l.getD i (aA .cI)).e9=x)) l.length with
 |some i=>((i:Int),true)
 |none=>match cl (fun i=>cN .gtr (l.getD i (aA .cI)).e9 x) l.length with
  |some j=>((j:Int),false)
  |none=>((l.length:Int),false):=by
 unfold jZ
 dsimp only
 rw[toNat_cast,iJ (p:=fun i=>decide ((l.getD i (aA .cI)).e9=x)) (F:=fun i=>((i:Int),true)) (fun i u=>by
  simp only[p2,toNat_cast]
  rw[decide_eq_true (show(i:Int)≥0 by omega),cond_true])]
 cases cl (fun i=>decide ((l.getD i (aA .cI)).e9=x)) l.length with
 |some i=>rfl
 |none=>
  dsimp only
  rw[decide_eq_false (show ¬(-1:Int)≥0 by omega),cond_false,iJ (p:=fun i=>cN .gtr (l.getD i (aA .cI)).e9 x) (F:=fun i=>((i:Int),false)) (fun i u=>by
   simp only[toNat_cast]
   rw[decide_eq_false (show ¬(i:Int)<0 by omega),cond_false])]
  cases cl (fun i=>cN .gtr (l.getD i (aA .cI)).e9 x) l.length<;>rfl
theorem zaa(l:List cI)(x:ByteArray):(0≤(jZ l x).1∧(jZ l x).1≤(l.length:Int))∧((jZ l x).2=true→(jZ l x).1<(l.length:Int)):=by
 rw[Z9]
 cases hf:cl (fun i=>decide ((l.getD i (aA .cI)).e9=x)) l.length with
 |some i=>
  have:=(jY hf).1
  dsimp only;exact⟨⟨by omega,by omega⟩,fun _=>by omega⟩
 |none=>
  dsimp only
  cases ah:cl (fun i=>cN .gtr (l.getD i (aA .cI)).e9 x) l.length with
  |some j=>
   have:=(jY ah).1
   dsimp only;exact⟨⟨by omega,by omega⟩,fun h=>by cases h⟩
  |none=>
   dsimp only;exact⟨⟨by omega,Int.le_refl _⟩,fun h=>by cases h⟩
theorem zab{w:fm}(h:zk w=0): -1≤w.top∧w.top≤1099511627776:=by
 unfold zk at h
 simp only[cond_eq_ite]at h
 split at h
 ·rename_i aa
  simp only[Bool.and_eq_true,beq_iff_eq]at aa;omega
 ·split at h
  ·cases h
  ·rename_i ae
   simp only[Bool.or_eq_true,decide_eq_true_eq,not_or]at ae;omega
theorem zac(w:fm):Hl w:=by
 intro _ ae v10 v11 au
 have au:=of_decide_eq_true au
 simp only[Bool.or_eq_false_iff,decide_eq_false_iff_not]at ae
 show 0≤IntKind.wrap .i64 (w.top+1)
 rw[sE (by omega) (by omega)]
 omega
theorem Qf(w:fm)(n:Int):Hm w n:=by
 refine⟨zac w,fun h=>?_⟩
 simp only[Bool.or_eq_false_iff,decide_eq_false_iff_not]at h
 obtain⟨⟨⟨aa,ae⟩,au⟩,_⟩:=h
 obtain⟨t1,t2⟩:=zab (nJ aa)
 refine⟨fun bF _=>?_,fun bF=>?_⟩
 ·have bF:=of_decide_eq_true bF
  show 0≤IntKind.wrap .i64 (n-w.top);rw[sE (by omega) (by omega)]
  omega
 ·have bF:=of_decide_eq_false bF
  show 0≤IntKind.wrap .i64 (w.top-n);rw[sE (by omega) (by omega)]
  omega
theorem Hn{c:Config}{ms:List cx}{ws:List cI}{av:List Int}{a:iu}{now oQ:Int}(hm:CM ms)(hw:ws.length≤1000000)(aH:sL a.token):wE c ms ws av a now oQ:=by
 obtain⟨dH,eR⟩:=zaa ws (lF c.key a.token now av).1.e9
 unfold wE
 extract_lets bB bU c9 aN dN bO
 have J: ∀z,bO z:=by
  intro z _;refine⟨fun ak=>⟨⟨dH.1,eR ak⟩,⟨dH.1,eR ak⟩,Qf _ _,fun _=>⟨fun _=>⟨⟨dH.1,eR ak⟩,dH.1,eR ak⟩,fun hf=>?_⟩⟩,fun ak=>⟨Qf _ _,fun _=>⟨fun hf=>?_,fun _=>⟨ur dH.1 dH.2,⟨Int.le_refl _,?_⟩,?_⟩⟩⟩⟩
  ·rw[ak]at hf;cases hf
  ·rw[ak]at hf;cases hf
  ·show(0:Int)<1
   decide
  ·show ws.length+1≤maxLen∧(ws.length+1)*32≤140737488355328
   unfold maxLen;omega
 refine⟨⟨?_,?_⟩,ZQ _ aH _ _,fun _=>⟨OR _ _,fun _=>J _,fun _=>⟨Z8 _ hm _ _ _,fun _=>J _,fun _=>J _⟩⟩,fun _=>J _⟩
 ·show 0+ws.length≤maxLen
  unfold maxLen;omega
 ·show(0+ws.length)*32≤140737488355328
  omega
end Go.aL
namespace Go.aL
open Go Go.eL
noncomputable def zl(ws:List cI)(name:ByteArray):fm:=bif(jZ ws name).2 then(ws.getD (Int.toNat (jZ ws name).1) (aA .cI)).uA else⟨-1,0⟩
noncomputable def CP(ws:List cI)(name:ByteArray)(w:fm):List cI:=bif(jZ ws name).2 then List.set ws (Int.toNat (jZ ws name).1) ⟨(ws.getD (Int.toNat (jZ ws name).1) (aA .cI)).e9,w⟩else(ws.take (Int.toNat (jZ ws name).1)++[⟨name,w⟩])++ws.drop (Int.toNat (jZ ws name).1)
noncomputable def Ho(ws:List cI)(name:ByteArray)(n:Int):ByteArray × List cI × Int:=bif !(uB (zl ws name) n).2 then(⟨#[]⟩,ws,18)else(name,CP ws name (uB (zl ws name) n).1,0)
theorem zad(c:Config)(ms:List cx)(ws:List cI)(av:List Int)(a:iu)(now oQ:Int):qc c ms ws av a now oQ=
 bif(lF c.key a.token now av).2 != 0 then(⟨#[]⟩,ws,(lF c.key a.token now av).2)else bif(mM c.home a.request) != 0 then(⟨#[]⟩,ws,mM c.home a.request)else
 bif(uC c.home ms (lF c.key a.token now av).1.e9 oQ a.request) != 0 then(⟨#[]⟩,ws,uC c.home ms (lF c.key a.token now av).1.e9 oQ a.request)else Ho ws (lF c.key a.token now av).1.e9 a.request.dz:=by
 unfold qc Ho zl CP
 dsimp only
 generalize lF c.key a.token now av=v
 generalize mM c.home a.request=x
 generalize uC c.home ms v.1.e9 oQ a.request=y
 have aw:(v.2 != 0)= !(v.2==0):=rfl
 cases aa:v.2==0 with
 |false=>
  rw[aw,aa];simp only[cond_false,cond_true,Bool.not_false,aw,aa]
 |true=>
  rw[aw,aa];simp only[cond_true,Bool.not_true,cond_false]
  cases ae:(x != 0)with
  |true=>simp only[cond_true,ae]
  |false=>
   simp only[cond_false]
   cases au:(y != 0)with
   |true=>simp only[cond_true,au]
   |false=>
    simp only[cond_false,show((0:Int) != 0)=false from rfl]
    cases (jZ ws v.1.e9).2<;>rfl
theorem zae(ws:List cI)(name:ByteArray)(w:fm):(CP ws name w).length≤ws.length+1:=by
 unfold CP
 cases (jZ ws name).2 with
 |true=>
  simp only[cond_true,List.length_set];omega
 |false=>
  simp only[cond_false,List.length_append,List.length_take,List.length_drop,List.length_cons,List.length_nil];omega
theorem zaf(c:Config)(ms:List cx)(ws:List cI)(av:List Int)(a:iu)(now oQ:Int):(qc c ms ws av a now oQ).2.1.length≤ws.length+1:=by
 rw[zad]
 generalize ((lF c.key a.token now av).2 != 0)=A
 generalize (mM c.home a.request != 0)=B
 generalize (uC c.home ms (lF c.key a.token now av).1.e9 oQ a.request != 0)=C
 unfold Ho
 generalize (uB (zl ws (lF c.key a.token now av).1.e9) a.request.dz).2=D
 have:=zae ws (lF c.key a.token now av).1.e9 (uB (zl ws (lF c.key a.token now av).1.e9) a.request.dz).1
 cases A<;>cases B<;>cases C<;>cases D<;>first|exact this|exact Nat.le_succ _
def wF:eM:=⟨⟨#[97,110,110]⟩,1,0,100⟩
theorem Qg:(decide ((zm (7:Int) wF).1.size≤30000)&&(decide ((zn wF).size≤2000000)&&decide ((CQ (7:Int) (zn wF)).size≤1000000)))=true:=by kernel_rfl
theorem zo{n:Int}(aa: -1000000≤n)(ae:n≤1000000):hH n:=⟨by omega,by omega⟩
theorem zag:CR wF:=by
 have ai:fg (⟨#[97,110,110]⟩:ByteArray):=by unfold fg;decide
 have aa:=zo (n:=1) (by decide) (by decide)
 have aM:=zo (n:=0) (by decide) (by decide)
 have ae:=zo (n:=100) (by decide) (by decide)
 have b6:=uf ai
 have a2:=kU aa
 have a3:=kU aM
 have a4:=kU ae
 unfold CR
 simp only[wB]
 show pR ⟨#[97,110,110]⟩∧iG 1∧(iH ⟨#[97,110,110]⟩).size+(fB 1).size≤_∧iG 0∧(iH ⟨#[97,110,110]⟩).size+(fB 1).size+(fB 0).size≤_∧iG 100∧(iH ⟨#[97,110,110]⟩).size+(fB 1).size+(fB 0).size+(fB 100).size≤_
 rw[oB ai,l6 aa,l6 aM,l6 ae]
 exact⟨v7 ai,oA aa,by omega,oA aM,by omega,oA ae,by omega⟩
theorem zah:Hp (7:Int) wF:=by
 have h:=Qg
 simp only[Bool.and_eq_true,decide_eq_true_eq]at h
 exact⟨sD _,fun _=>⟨zag,ZT _ h.2.1,ZJ h.2.2⟩⟩
theorem Hq:sL (zm (7:Int) wF).1:=by
 have h:=Qg
 simp only[Bool.and_eq_true,decide_eq_true_eq]at h
 exact h.1
def zai:bu:=⟨1,4,⟨1,⟨#[111,110,111,102,102]⟩,⟨#[111,110]⟩⟩,⟨#[]⟩,⟨0,0,⟨#[]⟩⟩,⟨#[]⟩⟩
theorem OO:zp=true:=by kernel_rfl
theorem Hr:CM CS.2:=fun m hm=>by
 have hm:m∈([⟨⟨#[97,110,110]⟩,4,[],[],false⟩]:List cx):=hm
 rw[List.mem_singleton]at hm
 subst hm
 exact⟨by decide,by decide⟩
theorem BL:wG:=by
 unfold wG
 extract_lets v0 v3 v6 v10 fw eb b8 iv
 have zjI:v6.2.1.length≤1:=zaf _ _ _ _ _ _ _
 have aI:pK zai:=by
  constructor<;>first|exact zo (by decide) (by decide)|(unfold fg;decide)|(constructor<;>first|exact zo (by decide) (by decide)|(unfold fg;decide))
 refine⟨trivial,zah,Hn Hr (by decide) Hq,Hn Hr (by omega) Hq,Hn Hr (by omega) Hq,ON aI,OM (Yw aI),fun h=>⟨Int.le_refl _,?_⟩⟩
 have h:((v3.2==0&&cN .eql v6.1 (⟨#[97,110,110]⟩:ByteArray))&&v6.2.2==0&&(List.length v6.2.1:Int)==1)=true:=h
 simp only[Bool.and_eq_true,beq_iff_eq]at h
 omega
end Go.aL
namespace Go.aL
open Go Go.eL
theorem d64{x:Int}(h:lG ⟨.int .i64,x⟩):hH x:=by
 cases h
 rename_i h
 have h:(decide (-9223372036854775808≤x)&&decide (x≤9223372036854775807))=true:=h
 rw[Bool.and_eq_true]at h
 have aa:=of_decide_eq_true h.1
 have ae:=of_decide_eq_true h.2
 exact⟨aa,by omega⟩
theorem zq{x:ByteArray}(h:lG ⟨.str,x⟩):fg x:=by
 cases h
 rename_i h
 exact h
theorem Xx{x:bu}(h:tW ⟨.st .bu,x⟩):pK x:=by
 have bb: ∀(i:Nat) (d:aF),(k2 .bu x)[i]? =some d→lG d:=fun i d hi=>h d (List.mem_of_getElem? hi)
 exact⟨d64 (bb 0 _ rfl),d64 (bb 1 _ rfl),d64 (bb 2 _ rfl),zq (bb 3 _ rfl),zq (bb 4 _ rfl),zq (bb 5 _ rfl),⟨d64 (bb 6 _ rfl),d64 (bb 7 _ rfl),zq (bb 8 _ rfl)⟩,zq (bb 9 _ rfl)⟩
end Go.aL
