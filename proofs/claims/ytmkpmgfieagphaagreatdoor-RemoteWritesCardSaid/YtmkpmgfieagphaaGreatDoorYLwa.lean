/- Values and effects of commands: the program's are the reference's. Conditions: none. -/
import Derived.Test.YtmkpmgfieagphaaGreatDoorYLt
namespace Go.aO
open Go Go.eK
def jW(n a b:Int):Int:=if n<a then(if a>b then b else a)else(if n>b then b else n)
theorem P5(n a b:Int):yT n a b=jW n a b:=by
 unfold yT jW
 by_cases aa:b<a
 ·rw[decide_eq_true aa,Bool.true_or,cond_true]
  split
  ·first|rfl|rw[if_pos aa]
  ·first|rfl|rw[if_pos (by omega)]
 ·rw[decide_eq_false aa,Bool.false_or]
  by_cases ae:n>b
  ·rw[decide_eq_true ae,cond_true,if_neg (by omega),if_pos ae]
  ·rw[decide_eq_false ae,cond_false]
   by_cases au:n<a
   ·rw[decide_eq_true au,cond_true,if_pos au,if_neg (by omega)]
   ·rw[decide_eq_false au,cond_false,if_neg au,if_neg ae]
theorem P6(a:Attr)(v:az):tO a v=gX a v:=by
 unfold tO gX
 rw[yw,P5]
 dsimp only
 rw[show(gH a != 0)= !(gH a==0)from rfl,show(a.kind != 2)= !(a.kind==2)from rfl,show(v.kind != 2)= !(v.kind==2)from rfl]
 cases gH a==0<;>cases a.kind==2<;>cases v.kind==2<;>try rfl
 show(bif decide (v.n<a.min)then(bif decide (a.min>a.max)then(⟨v.kind,a.max,v.s⟩:az)else⟨v.kind,a.min,v.s⟩)else(bif decide (v.n>a.max)then⟨v.kind,a.max,v.s⟩else⟨v.kind,v.n,v.s⟩))=⟨v.kind,jW v.n a.min a.max,v.s⟩
 unfold jW
 by_cases aa:v.n<a.min
 ·rw[decide_eq_true aa,cond_true,if_pos aa]
  by_cases ae:a.min>a.max
  ·rw[decide_eq_true ae,if_pos ae];rfl
  ·rw[decide_eq_false ae,if_neg ae];rfl
 ·rw[decide_eq_false aa,cond_false,if_neg aa]
  by_cases ae:v.n>a.max
  ·rw[decide_eq_true ae,if_pos ae];rfl
  ·rw[decide_eq_false ae,if_neg ae];rfl
def Hh(v:az):Prop:=((v.kind=0∧v.n=0)∨(v.kind=4∧v.n=0)∨(v.kind=1∧(v.n=0∨v.n=1))∨(v.kind=2∧ -1099511627776≤v.n∧v.n≤1099511627776)∨(v.kind=3∧0≤v.n∧v.n≤63))∧v.s.size≤60∧(v.kind≠4→v.s=⟨#[]⟩)
theorem P7(v:az):lb v=0↔Hh v:=by
 obtain⟨k,n,s⟩:=v
 unfold lb Hh px
 simp only[Gv]
 have key: ∀b:Bool,(bif !b then(2:Int)else bif decide ((ByteArray.size s:Int)>60)then 3 else bif !decide (s=⟨#[]⟩)&&(k != 4)then 4 else 0)=0↔b=true∧s.size≤60∧(k≠4→s=⟨#[]⟩):=fun b=>by
  cases b with
  |false=>simp
  |true=>
   by_cases aa:(ByteArray.size s:Int)>60
   ·rw[decide_eq_true aa]
    simp;omega
   ·rw[decide_eq_false aa]
    by_cases ae:s=⟨#[]⟩
    ·subst ae
     exact⟨fun _=>⟨rfl,by decide,fun _=>rfl⟩,fun _=>by simp⟩
    ·by_cases au:k=4
     ·simp[ae,au];omega
     ·have aW:(k != 4)=true:=by simp[au]
      simp[ae,au,aW]
 by_cases a1:k=0
 ·subst a1
  exact(key _).trans (by simp)
 ·have il:(k==0)=false:=beq_eq_false_iff_ne.2 a1
  rw[il]
  by_cases lY:k=4
  ·subst lY
   exact(key _).trans (by simp)
  ·have eC:(k==4)=false:=beq_eq_false_iff_ne.2 lY
   rw[eC]
   by_cases eP:k=1
   ·subst eP
    exact(key _).trans (by simp)
   ·have aE:(k==1)=false:=beq_eq_false_iff_ne.2 eP
    rw[aE]
    by_cases fx:k=2
    ·subst fx
     exact(key _).trans (by simp)
    ·have bo:(k==2)=false:=beq_eq_false_iff_ne.2 fx
     rw[bo]
     by_cases iv:k=3
     ·subst iv
      exact(key _).trans (by simp)
     ·have cv:(k==3)=false:=beq_eq_false_iff_ne.2 iv
      rw[cv];simp[a1,eP,fx,iv,lY]
theorem P8{a:Attr}(h:gH a=0):(1≤a.kind∧a.kind≤4)∧(a.kind=2→ -1099511627776≤a.min∧a.min≤a.max∧a.max≤1099511627776):=by
 unfold gH px at h
 dsimp only at h
 obtain⟨_,h⟩:=hR (by decide) h
 obtain⟨aj,h⟩:=hR (by decide) h
 simp only[Bool.or_eq_false_iff,decide_eq_false_iff_not]at aj
 refine⟨by omega,fun ae=>?_⟩
 rw[ae]at h
 have h:(bif !(decide (a.min≥ -1099511627776)&&decide (a.min≤1099511627776))then _ else _)=(0:Int):=h
 cases hm:(decide (a.min≥ -1099511627776)&&decide (a.min≤1099511627776))with
 |false=>rw[hm]at h;exact absurd (show(2:Int)=0 from h) (by decide)
 |true=>
  rw[hm]at h
  have:=(hR (by decide) (show(bif((!true)|| !(decide (a.max≥ -1099511627776)&&decide (a.max≤1099511627776)))||decide (a.min>a.max)then(2:Int)else _)=0 from h)).1
  simp only[Bool.and_eq_true,decide_eq_true_eq]at hm;simp only[Bool.not_true,Bool.false_or,Bool.or_eq_false_iff,Bool.not_eq_false',Bool.and_eq_true,decide_eq_true_eq,decide_eq_false_iff_not]at this;omega
structure lj (a:Attr) (v:az):Prop where
 a0:gH a=0
 v0:Hh v
 vT:v.kind=a.kind
 lo:a.kind=2→a.min≤v.n∧v.n≤a.max
 zjw:a.kind=3→v.n<(a.enum.length:Int)
theorem Hi(a:Attr)(v:az):hD a v=0↔lj a v:=by
 unfold hD
 dsimp only
 refine⟨fun h=>?_,fun h=>?_⟩
 ·obtain⟨aa,h⟩:=qF h
  obtain⟨ae,h⟩:=qF h;obtain⟨au,h⟩:=hR (by decide) h
  have au:v.kind=a.kind:=by simpa using au
  refine⟨aa,(P7 v).1 ae,au,fun aj=>?_,fun aj=>?_⟩
  ·have e:(v.kind==2)=true:=by rw[au,aj];rfl
   rw[e,Bool.true_and]at h
   cases ad:(decide (v.n<a.min)||decide (v.n>a.max))with
   |true=>rw[ad]at h;exact absurd (show(2:Int)=0 from h) (by decide)
   |false=>
    simp only[Bool.or_eq_false_iff,decide_eq_false_iff_not]at ad;omega
  ·have e:(v.kind==2)=false:=by rw[au,aj];rfl
   have cv:(v.kind==3)=true:=by rw[au,aj];rfl
   rw[e,Bool.false_and,cond_false,cv,Bool.true_and]at h
   by_cases hn:v.n≥(List.length a.enum:Int)
   ·rw[decide_eq_true hn]at h;exact absurd (show(2:Int)=0 from h) (by decide)
   ·omega
 ·obtain⟨aa,ae,au,aW,bN⟩:=h
  rw[aa,(P7 v).2 ae,show(v.kind != a.kind)=false by simp[au]]
  show(bif((v.kind==2)&&(decide (v.n<a.min)||decide (v.n>a.max)))then(bif((v.kind==2)&&(decide (v.n<a.min)||decide (v.n>a.max)))then(2:Int)else 0)else(bif(v.kind==3)&&decide (v.n≥(List.length a.enum:Int))then 2 else 0))=0
  have aE:((v.kind==2)&&(decide (v.n<a.min)||decide (v.n>a.max)))=false:=by
   by_cases aj:v.kind=2
   ·have:=aW (by rw[←au];exact aj)
    rw[decide_eq_false (show ¬v.n<a.min by omega),decide_eq_false (show ¬v.n>a.max by omega),Bool.or_false,Bool.and_false]
   ·rw[beq_eq_false_iff_ne.2 aj,Bool.false_and]
  have bo:((v.kind==3)&&decide (v.n≥(List.length a.enum:Int)))=false:=by
   by_cases aj:v.kind=3
   ·have:=bN (by rw[←au];exact aj)
    rw[decide_eq_false (show ¬v.n≥(List.length a.enum:Int)by omega),Bool.and_false]
   ·rw[beq_eq_false_iff_ne.2 aj,Bool.false_and]
  rw[aE,bo];rfl
theorem Cx{a:Attr}{v:az}(ba:gH a=0)(aj:a.kind=2)(ax:v.kind=2):gX a v=⟨v.kind,jW v.n a.min a.max,v.s⟩:=by
 unfold gX
 rw[ba,aj,ax,P5]
 rfl
theorem Hj{a:Attr}{v:az}(aj:a.kind≠2):gX a v=v:=by
 unfold gX
 rw[beq_eq_false_iff_ne.2 aj,Bool.and_false,Bool.false_and]
 rfl
theorem ZF{n a b:Int}(h:a≤b):a≤jW n a b∧jW n a b≤b:=by
 unfold jW
 split
 ·rw[if_neg (by omega)];omega
 ·split<;>omega
theorem P9{a:Attr}{v:az}(ba:gH a=0)(aj:a.kind=2)(ax:v.kind=2)(ai:v.s=⟨#[]⟩):lj a (gX a v):=by
 obtain⟨_,ad⟩:=P8 ba
 obtain⟨fY,hr,gP⟩:=ad aj
 obtain⟨aY,bW⟩:=ZF (n:=v.n) hr
 rw[Cx ba aj ax]
 refine⟨ba,⟨.inr (.inr (.inr (.inl ⟨ax,by show -1099511627776≤jW v.n a.min a.max;omega,by show jW v.n a.min a.max≤_;omega⟩))),by show v.s.size≤60;rw[ai];exact Nat.zero_le _,fun _=>ai⟩,by rw[aj];exact ax,fun _=>⟨aY,bW⟩,fun h=>by rw[aj]at h;cases h⟩
theorem Qa{a:Attr}{v:az}(h:lj a v):gX a v=v:=by
 by_cases aj:a.kind=2
 ·have:=h.lo aj
  rw[Cx h.a0 aj (h.vT.trans aj)]
  have:jW v.n a.min a.max=v.n:=by
   unfold jW;rw[if_neg (by omega),if_neg (by omega)]
  rw[this]
 ·exact Hj aj
theorem Qb(y:Int):(y< -1099511627776∧ld y= -1099511627776)∨((-1099511627776≤y∧y≤1099511627776)∧ld y=y)∨(y>1099511627776∧ld y=1099511627776):=by
 have e:ld y=if(1099511627776:Int)<(if(-1099511627776:Int)>y then -1099511627776 else y)then 1099511627776 else(if(-1099511627776:Int)>y then -1099511627776 else y):=rfl
 rw[e]
 by_cases aa:(-1099511627776:Int)>y
 ·rw[if_pos aa,if_neg (by decide)]
  exact .inl ⟨by omega,rfl⟩
 ·rw[if_neg aa]
  by_cases ae:(1099511627776:Int)<y
  ·rw[if_pos ae]
   exact .inr (.inr ⟨by omega,rfl⟩)
  ·rw[if_neg ae]
   exact .inr (.inl ⟨by omega,rfl⟩)
theorem ZG{y a b:Int}(aa: -1099511627776≤a)(ae:a≤b)(au:b≤1099511627776):jW (ld y) a b=jW y a b:=by
 rcases Qb y with⟨aY,bW⟩|⟨_,bW⟩|⟨aY,bW⟩
 ·rw[bW]
  unfold jW;rw[if_pos (show y<a by omega),if_neg (show ¬a>b by omega)]
  split
  ·rfl
  ·rw[if_neg (by omega)];omega
 ·rw[bW]
 ·rw[bW]
  unfold jW;rw[if_neg (show ¬y<a by omega),if_pos (show y>b by omega),if_neg (show ¬(1099511627776:Int)<a by omega)]
  split<;>omega
theorem ZH{x n:Int}(aa: -1099511627776≤x∧x≤1099511627776)(ae: -1099511627776≤n∧n≤1099511627776):r4 x n=ld (x+n):=by
 unfold r4
 rw[my (by omega) (by omega)]
 dsimp only
 have:((cD.den (.kI false) (decide (x<0)) (decide (n<0)))&&(cD.den (.kI true) (decide (x+n<0)) (decide (x<0))))=false:=by
  simp only[cD.den]
  by_cases hx:x<0<;>by_cases hn:n<0
  ·rw[decide_eq_true hx,decide_eq_true hn,decide_eq_true (show x+n<0 by omega)];rfl
  ·rw[decide_eq_true hx,decide_eq_false hn];rfl
  ·rw[decide_eq_false hx,decide_eq_true hn];rfl
  ·rw[decide_eq_false hx,decide_eq_false hn,decide_eq_false (show ¬x+n<0 by omega)];rfl
 rw[this]
 rfl
theorem ZI{n:Int}(h:ld n=n): -1099511627776≤n∧n≤1099511627776:=by
 rcases Qb n with c|c|c<;>omega
structure Qc (e:bV) (a p:Attr):Prop where
 eP:e.kind=1→a.kind≠4∧hD a ⟨a.kind,e.n,⟨#[]⟩⟩=0
 fx:e.kind=2→a.kind=p.kind∧a.enum.length=p.enum.length
 iv:e.kind=3→a.kind=2∧ld e.n=e.n
 lY:e.kind=4→a.kind=1
theorem ZJ{e:bV}{a p:Attr}{aH aX:az}(he:Qc e a p)(hx:p.kind≠0→lj p aH)(au:lj a aX):r5 e a aH aX=nq e a aH aX∧lj a (nq e a aH aX):=by
 obtain⟨⟨da,dm⟩,gy⟩:=P8 au.a0
 obtain⟨ZK,vs,oq⟩:=au.v0
 unfold r5 nq
 simp only[P6]
 by_cases aa:e.kind=1
 ·obtain⟨g1,g2⟩:=he.eP aa
  rw[aa]
  have aE:aX.s=⟨#[]⟩:=oq (by rw[au.vT];exact g1)
  show gX a ⟨aX.kind,e.n,aX.s⟩=gX a ⟨a.kind,e.n,⟨#[]⟩⟩∧lj a (gX a ⟨a.kind,e.n,⟨#[]⟩⟩);rw[au.vT,aE]
  have ax:=(Hi _ _).1 g2
  rw[Qa ax];exact⟨rfl,ax⟩
 ·rw[beq_eq_false_iff_ne.2 aa]
  by_cases ae:e.kind=2
  ·obtain⟨g1,g2⟩:=he.fx ae
   rw[ae];show gX a ⟨aH.kind,aH.n,aH.s⟩=gX a ⟨aH.kind,aH.n,aH.s⟩∧lj a (gX a aH);refine⟨rfl,?_⟩
   obtain⟨We,gq,r6,_,gr⟩:=hx (by rw[←g1];omega)
   by_cases aj:a.kind=2
   ·exact P9 au.a0 aj (by rw[r6,←g1];exact aj) (gq.2.2 (by rw[r6,←g1,aj];decide))
   ·rw[Hj aj]
    exact⟨au.a0,gq,by rw[r6,g1],fun h=>absurd h aj,fun h=>by rw[g2];exact gr (by rw[←g1];exact h)⟩
  ·rw[beq_eq_false_iff_ne.2 ae]
   by_cases aW:e.kind=3
   ·obtain⟨g1,g2⟩:=he.iv aW
    rw[aW];obtain⟨fY,hr,gP⟩:=gy g1
    have hn:=au.lo g1
    have r7:aX.kind=2:=au.vT.trans g1
    show gX a ⟨aX.kind,IntKind.wrap .i64 (aX.n+e.n),aX.s⟩=gX a ⟨aX.kind,r4 aX.n e.n,aX.s⟩∧lj a (gX a ⟨aX.kind,r4 aX.n e.n,aX.s⟩)
    have ag:=ZI g2
    refine⟨?_,P9 au.a0 g1 r7 (oq (by rw[r7];decide))⟩
    rw[Cx (v:=⟨aX.kind,IntKind.wrap .i64 (aX.n+e.n),aX.s⟩) au.a0 g1 r7,Cx (v:=⟨aX.kind,r4 aX.n e.n,aX.s⟩) au.a0 g1 r7,ZH (by omega) ag,my (by omega) (by omega)]
    show(⟨aX.kind,jW (aX.n+e.n) a.min a.max,aX.s⟩:az)=⟨aX.kind,jW (ld (aX.n+e.n)) a.min a.max,aX.s⟩;rw[ZG fY hr gP]
   ·rw[beq_eq_false_iff_ne.2 aW]
    by_cases bN:e.kind=4
    ·rw[bN]
     have g1:=he.lY bN
     have r7:aX.kind=1:=au.vT.trans g1
     show gX a ⟨aX.kind,IntKind.wrap .i64 (1-aX.n),aX.s⟩=gX a ⟨aX.kind,IntKind.wrap .i64 (1-aX.n),aX.s⟩∧lj a (gX a ⟨aX.kind,IntKind.wrap .i64 (1-aX.n),aX.s⟩);refine⟨rfl,?_⟩
     have hn:aX.n=0∨aX.n=1:=by
      rcases ZK with h|h|h|h|h
      ·exact .inl h.2
      ·exact .inl h.2
      ·exact h.2
      ·rw[r7]at h;exact absurd h.1 (by decide)
      ·rw[r7]at h;exact absurd h.1 (by decide)
     rw[Hj (by rw[g1];decide),my (by omega) (by omega)]
     exact⟨au.a0,⟨.inr (.inr (.inl ⟨r7,by show 1-aX.n=0∨1-aX.n=1;omega⟩)),vs,oq⟩,au.vT,(fun h=>by rw[g1]at h;cases h),(fun h=>by rw[g1]at h;cases h)⟩
    ·rw[beq_eq_false_iff_ne.2 bN]
     show gX a ⟨aX.kind,aX.n,aX.s⟩=gX a ⟨aX.kind,aX.n,aX.s⟩∧lj a (gX a aX);rw[Qa au];exact⟨rfl,au⟩
end Go.aO
