/- What the reference's Check of a request asks. Conditions: none. -/
import Derived.Test.YtmkpmgfieagphaaGreatDoorYLk
import Derived.Test.YtmkpmgfieagphaaGreatDoorYPn
import Derived.Test.YtmkpmgfieagphaaGreatDoorYTEk
namespace Go.aO
open Go Go.eK
theorem tm(a:Attr):qH a:=by
 unfold qH
 repeat' (first|exact trivial|exact rW _|(refine Exists.intro (fun _ _=>True) (And.intro trivial ?_);intro i _ hi _;refine⟨rW _,fun _=>⟨tB (by omega) (by rw[toNat_cast]at hi;omega),fun _=>trivial⟩⟩)|intro _|refine And.intro ?_ ?_)
theorem PR(x y:List ByteArray):B6 x y:=PD x y
theorem YG(a b:Attr):GC a b:=fun _=>PR _ _
theorem PS(c:aA)(x:ByteArray):B7 c x:=by
 intro h
 have h:decide (jb c x<0)=false:=h
 show 0≤jb c x∧jb c x<(c.attrs.length:Int)
 rw[yd]at h⊢
 cases hf:cd (fun i=>decide ((c.attrs.getD i (av .Attr)).name=x)) c.attrs.length with
 |none=>rw[hf]at h;cases h
 |some i=>
  have:=(hA hf).1
  dsimp only;omega
theorem yc(a:Attr)(v:az):tI a v:=⟨tm a,fun _=>tm a⟩
theorem YH(x:bV)(a b:Attr):B8 x a b:=by
 unfold B8
 repeat' (first|exact yc _ _|exact PR _ _|intro _|refine And.intro ?_ ?_)
theorem YI(c:aA)(a:Attr)(x:bV):B9 c a x:=by
 unfold B9
 repeat' (first|exact PS _ _|exact YH _ _ _|intro _|refine And.intro ?_ ?_)
theorem YJ{c:aA}{k:Nat}(aj:k<c.commands.length)(ad:k<1000000):GD c (k:Int):=by
 refine⟨⟨by omega,by omega⟩,rW _,fun _=>⟨⟨by omega,by omega⟩,⟨fun _ _=>True,trivial,fun i _ hi _=>⟨⟨by omega,?_⟩,fun _=>trivial⟩,fun _ _=>?_⟩⟩⟩
 ·rw[toNat_cast]at hi
  omega
 ·repeat' (first|exact trivial|exact tm _|exact YG _ _|exact YI _ _ _|intro _|refine And.intro ?_ ?_|refine Exists.intro (fun _ _=>True) (And.intro trivial ?_))
theorem YK{c:aA}(h:oe c=false):c.commands.length≤12∧c.events.length≤12:=by
 unfold oe at h
 dsimp only at h
 rw[toNat_cast,hq (p:=fun i=>decide ((List.length ((List.getD c.commands i (av .Command)).c4):Int)>12)) (F:=fun _=>true) (fun i u=>by simp only[toNat_cast])]at h
 cases hf:cd (fun i=>decide ((List.length ((List.getD c.commands i (av .Command)).c4):Int)>12)) c.commands.length with
 |none=>
  rw[hf]at h;simp only[Bool.or_eq_false_iff,decide_eq_false_iff_not]at h;omega
 |some i=>rw[hf]at h;cases h
theorem OX(c:aA):Ca c:=by
 refine⟨rW _,fun _ hw=>?_⟩
 rw[PI]at hw
 obtain⟨aa,ae⟩:=YK hw
 refine⟨fun _ _=>True,trivial,fun i _ hi _=>⟨tm _,fun _ _=>trivial⟩,fun _ _=>⟨fun _ _=>True,trivial,fun i _ hi _=>⟨YJ (by rw[toNat_cast]at hi;omega) (by rw[toNat_cast]at hi;omega),fun _=>trivial⟩,fun _ _=>⟨fun _ _=>True,trivial,fun i _ hi _=>⟨rW _,fun _=>⟨⟨by omega,by rw[toNat_cast]at hi;omega⟩,⟨fun _ _=>True,trivial,fun j _ af _=>⟨⟨by omega,?_⟩,fun _=>trivial⟩,fun _ _=>trivial⟩⟩⟩⟩⟩⟩
 rw[toNat_cast]at hi af
 omega
theorem YL(l:List aA):GF l:=by
 refine fun ar=>⟨fun _ _=>True,trivial,fun i _ hi _=>⟨OX _,fun _=>⟨⟨by omega,?_⟩,⟨fun _ _=>True,trivial,fun j _ af _=>⟨⟨by omega,?_⟩,fun _=>trivial⟩,fun _ _=>trivial⟩⟩⟩⟩
 ·have ar:=of_decide_eq_false ar
  rw[toNat_cast]at hi;omega
 ·rw[toNat_cast]at hi af
  omega
theorem PT{h:Home}(ad:h.bB.length≤1000000)(x:ByteArray):Cb h x:=by
 show 0≤(h.bB.length:Int)∧(h.bB.length:Int)<9223372036854775808
 omega
theorem YM{h:Home}{x:ByteArray}(ax:decide (lf h x<0)=false):0≤lf h x∧lf h x<(h.bB.length:Int):=by
 rw[vJ]at ax⊢
 cases hf:cd (fun i=>decide ((h.bB.getD i (av .aA)).name=x)) h.bB.length with
 |none=>rw[hf]at ax;cases ax
 |some i=>
  have:=(hA hf).1
  dsimp only;omega
theorem YN{h:Home}(ad:h.bB.length≤1000000)(d:bx):GG h d:=
 fun _=>⟨fun _ _=>True,trivial,fun _ _ _ _=>⟨PT ad _,fun ax _=>⟨YM ax,trivial⟩⟩⟩
theorem YO{h:Home}(ad:h.bB.length≤1000000){k:Nat}(aj:k<h.bs.length)(PU:k<1000000):GH h (k:Int):=by
 refine⟨⟨by omega,by omega⟩,fun _=>⟨fun ax=>?_,fun _=>⟨⟨by omega,by omega⟩,⟨fun _ _=>True,trivial,fun i _ hi _=>⟨⟨by omega,by rw[toNat_cast]at hi;omega⟩,fun _=>trivial⟩,fun _ _=>⟨rW _,fun _=>YN ad _⟩⟩⟩⟩⟩
 have ax:=of_decide_eq_true ax
 show 0≤IntKind.wrap .i64 ((k:Int)-1)∧IntKind.wrap .i64 ((k:Int)-1)<(h.bs.length:Int)
 rw[my (by omega) (by omega)]
 omega
theorem YP{l:List aA}(h:nn l=0):l.length≤256:=by
 unfold nn at h
 dsimp only at h
 have:=of_decide_eq_false (hR (by decide) h).1
 omega
theorem PV(h:Home):Cc h:=by
 refine⟨YL _,fun aa au=>⟨fun _ _=>True,trivial,fun i _ hi _=>⟨?_,fun _=>trivial⟩⟩⟩
 have aa:=ih aa
 rw[PJ]at aa
 have au:=of_decide_eq_false au
 rw[toNat_cast]at hi
 exact YO (by have:=YP aa;omega) hi (by omega)
theorem PW(h:Home)(x:Int):pH h x=match cd (fun i=>(h.bs.getD i (av .bx)).id==x) h.bs.length with|some i=>(i:Int)|none=> -1:=by
 unfold pH
 dsimp only
 rw[toNat_cast,hq (p:=fun i=>(h.bs.getD i (av .bx)).id==x) (F:=fun i=>(i:Int)) (fun i u=>by simp only[toNat_cast])]
 all_goals cases cd (fun i=>(h.bs.getD i (av .bx)).id==x) h.bs.length<;>rfl
theorem GI{h:Home}(aP:fj h=0): ∀k,k<h.bs.length→pG h (k:Int)=0:=by
 rw[←BY]at aP
 unfold pF at aP
 dsimp only at aP
 obtain⟨_,aP⟩:=qF aP
 obtain⟨_,aP⟩:=hR (by decide) aP
 simp only[toNat_cast]at aP
 exact((tG (e:=fun i=>pG h (i:Int)) fun i hi=>rfl).1 aP).1
theorem GJ{h:Home}(aP:fj h=0):h.bs.length≤20:=by
 unfold fj at aP
 dsimp only at aP
 obtain⟨_,aP⟩:=qF aP
 have:=of_decide_eq_false (hR (by decide) aP).1
 omega
theorem GK{h:Home}{k:Nat}(ad:k<1000000)(aS:pG h (k:Int)=0):(0<k→(h.bs.getD (k-1) (av .bx)).id<(h.bs.getD k (av .bx)).id)∧qG h (h.bs.getD k (av .bx))=0:=by
 unfold pG at aS
 simp only[toNat_cast]at aS
 obtain⟨_,aS⟩:=hR (by decide) aS
 obtain⟨ao,aS⟩:=hR (by decide) aS
 obtain⟨_,aS⟩:=(tG (e:=fun i=>bif((h.bs.getD i (av .bx)).gW==(h.bs.getD k (av .bx)).gW)then 9 else 0) fun i hi=>by
  cases ((h.bs.getD i (av .bx)).gW==(h.bs.getD k (av .bx)).gW)<;>rfl).1 aS
 obtain⟨_,aS⟩:=hR (by decide) aS
 refine⟨fun aj=>?_,aS⟩
 rw[decide_eq_true (show(k:Int)>0 by omega),Bool.true_and]at ao
 have ao:=of_decide_eq_false ao
 rw[my (by omega) (by omega),show((k:Int)-1).toNat=k-1 by omega]at ao
 omega
theorem GL{h:Home}(aP:fj h=0): ∀j i,j<h.bs.length→i<j→(h.bs.getD i (av .bx)).id<(h.bs.getD j (av .bx)).id
 |0,_,_,h=>by omega
 |j+1,i,af,hi=>by
  have ar:=GJ aP
  have aa:=(GK (by omega) (GI aP (j+1) af)).1 (by omega)
  rw[Nat.add_sub_cancel]at aa
  by_cases oj:i=j
  ·rw[oj];exact aa
  ·have:=GL aP j i (by omega) (by omega)
   omega
theorem PX{A:Type}{b:Nat→A→Step Int A}{g:A→Int}{n:Nat}(ad: ∀i a,(∃r,b i a= .ret r∧r≠0)∨∃bf,b i a= .bn bf): ∀m k a,k+m=n→Sum.elim (fun r=>r) g (bq b k m a)=0→∀i,k≤i→i<n→∃a bf,b i a= .bn bf
 |0,k,_,aj,_,i,aa,ae=>by omega
 |m+1,k,a,aj,aP,i,aa,ae=>by
  unfold bq at aP
  rcases ad k a with⟨r,ag,cb⟩|⟨bf,ba⟩
  ·rw[ag]at aP
   exact absurd aP cb
  ·rw[ba]at aP
   by_cases qI:i=k
   ·subst qI
    exact⟨a,bf,ba⟩
   ·exact PX ad m (k+1) bf (by omega) aP i (by omega) ae
theorem YQ{h:Home}{d:bx}(aS:qG h d=0): ∀i,i<d.bB.length→∃j,cd (fun j=>decide ((h.bB.getD j (av .aA)).name=d.bB.getD i (av .str))) h.bB.length=some j:=by
 unfold qG at aS
 simp only[toNat_cast]at aS
 obtain⟨_,aS⟩:=hR (by decide) aS
 intro i hi
 obtain⟨a,bf,ba⟩:=PX (n:=d.bB.length) (fun i a=>by
  cases decide (lf h (d.bB.getD i (av .str))<0)with
  |true=>exact .inl ⟨8,rfl,by decide⟩
  |false=>
   cases decide (qC d.bB (d.bB.getD i (av .str))<(i:Int))with
   |true=>exact .inl ⟨9,rfl,by decide⟩
   |false=>exact .inr ⟨_,rfl⟩) _ 0 _ (by omega) aS i (by omega) hi
 rw[vJ]at ba
 cases hf:cd (fun j=>decide ((h.bB.getD j (av .aA)).name=d.bB.getD i (av .str))) h.bB.length with
 |some j=>exact⟨j,rfl⟩
 |none=>
  rw[hf]at ba;cases ba
theorem GM{h:Home}(aP:fj h=0){i:Nat}(hi:i<h.bs.length){n:ByteArray}(hm:decide (lV (h.bs.getD i (av .bx)).bB n<0)=false): ∃j,cd (fun j=>decide ((h.bB.getD j (av .aA)).name=n)) h.bB.length=some j:=by
 have ar:=GJ aP
 have hc:=YQ (GK (by omega) (GI aP i hi)).2
 rw[BT]at hm
 cases hf:cd (fun k=>decide (n=(h.bs.getD i (av .bx)).bB.getD k (av .str))) (h.bs.getD i (av .bx)).bB.length with
 |none=>rw[hf]at hm;cases hm
 |some k=>
  obtain⟨aa,ae,_⟩:=hA hf;rw[of_decide_eq_true ae];exact hc k aa
theorem F3{h:Home}(ad:h.bB.length≤1000000)(hd:h.bs.length≤1000000)(x:Int)(n:ByteArray):yG h x n:=by
 refine⟨⟨by omega,by omega⟩,?_⟩
 intro v4
 cases ax:v4 with
 |true=>exact⟨fun _=>⟨(fun h=>by cases h),fun _ h=>(by cases h),fun h=>(by cases h)⟩,fun h=>by cases h⟩
 |false=>
  have ax:decide (pH h x<0)=false:=ax
  have ag:0≤pH h x∧pH h x<(h.bs.length:Int):=by
   rw[PW]at ax⊢
   cases hf:cd (fun i=>(h.bs.getD i (av .bx)).id==x) h.bs.length with
   |none=>rw[hf]at ax;cases ax
   |some i=>
    have:=(hA hf).1
    dsimp only;omega
  refine⟨(fun h=>by cases h),fun _=>⟨PV h,fun eD=>ag,fun eD hB=>?_,fun eD hB=>?_⟩⟩
  ·rw[eD]at hB
   cases hB
  ·refine⟨PT ad _,?_⟩
   have eD:(false||(pF h != 0))=false:=eD
   rw[eD]at hB
   have aP:pF h=0:=by simpa using eD
   rw[BY]at aP
   have hB:decide (qC (h.bs.getD (Int.toNat (pH h x)) (av .bx)).bB n<0)=false:=hB
   rw[Gw]at hB;obtain⟨j,af⟩:=GM aP (i:=Int.toNat (pH h x)) (by omega) hB
   show 0≤lf h n∧lf h n<(h.bB.length:Int);rw[vJ,af]
   have:=(hA af).1
   dsimp only;omega
theorem YR{h:Home}(ad:h.bB.length≤1000000)(hd:h.bs.length≤1000000)(k:cB):GN h k:=⟨F3 ad hd _ _,fun _=>PS _ _⟩
theorem YS{h:Home}(ad:h.bB.length≤1000000)(hd:h.bs.length≤1000000)(q:aT):GO h q:=⟨YR ad hd _,fun _ _ _=>yc _ _⟩
theorem YT{h:Home}(ad:h.bB.length≤1000000)(hd:h.bs.length≤1000000)(q:aT):GQ h q:=⟨F3 ad hd _ _,fun _ _ _=>yc _ _⟩
theorem W5{h:Home}(ad:h.bB.length≤1000000)(hd:h.bs.length≤1000000)(q:aT):Cd h q:=by
 unfold Cd
 repeat' (first|exact trivial|exact PV _|exact YS ad hd _|exact YT ad hd _|exact rW _|intro _|refine And.intro ?_ ?_)
end Go.aO
namespace Go.aO
open Go Go.eK
theorem GR(h:Home)(x:Int)(n:ByteArray):mw h x n=bif(fj h != 0)then(⟨⟨#[]⟩,[],[],[]⟩,false)else match cd (fun i=>(h.bs.getD i (av .bx)).id==x) h.bs.length with
 |none=>(⟨⟨#[]⟩,[],[],[]⟩,false)
 |some i=>bif decide (lV (h.bs.getD i (av .bx)).bB n<0)then(⟨⟨#[]⟩,[],[],[]⟩,false)else(h.bB.getD (Int.toNat (lf h n)) (av .aA),true):=by
 unfold mw
 rw[PW,BY]
 dsimp only
 cases hf:cd (fun i=>(h.bs.getD i (av .bx)).id==x) h.bs.length with
 |none=>
  cases fj h != 0<;>rfl
 |some i=>
  dsimp only;rw[decide_eq_false (show ¬(i:Int)<0 by omega),toNat_cast,Gw]
  cases fj h != 0<;>rfl
theorem YU{q:Nat→Bool}{n i:Nat}(hi:i<n)(aN:q i=true):(cd q n).isSome=true:=by
 cases h:cd q n with
 |none=>rw[pD h i hi]at aN;cases aN
 |some j=>rfl
theorem PY(l:List ByteArray)(x:ByteArray):iK l x= !decide (lV l x<0):=by
 unfold iK
 by_cases h:lV l x<0
 ·rw[decide_eq_true h]
  exact decide_eq_false (by omega)
 ·rw[decide_eq_false h]
  exact decide_eq_true (by omega)
theorem YV{h:Home}(aP:fj h=0){i j:Nat}(hi:i<h.bs.length)(af:j<h.bs.length)(he:(h.bs.getD i (av .bx)).id=(h.bs.getD j (av .bx)).id):i=j:=by
 rcases Nat.lt_trichotomy i j with aa|aa|aa
 ·have:=GL aP j i af aa
  omega
 ·exact aa
 ·have:=GL aP i j hi aa
  omega
theorem FZ{h:Home}(aP:fj h=0)(x:Int)(n:ByteArray):mw h x n=lP h x n:=by
 rw[GR,PO,aP]
 show(match cd (fun i=>(h.bs.getD i (av .bx)).id==x) h.bs.length with
  |none=>((⟨⟨#[]⟩,[],[],[]⟩:aA),false)
  |some i=>bif decide (lV (h.bs.getD i (av .bx)).bB n<0)then((⟨⟨#[]⟩,[],[],[]⟩:aA),false)else(h.bB.getD (Int.toNat (lf h n)) (av .aA),true))=_
 cases hf:cd (fun i=>(h.bs.getD i (av .bx)).id==x) h.bs.length with
 |none=>
  rw[tl fun j af=>?_]
  ·rfl
  ·have:=pD hf j af
   unfold r2;rw[this];rfl
 |some i=>
  obtain⟨aa,ae,_⟩:=hA hf
  have ae:(h.bs.getD i (av .bx)).id=x:=by simpa using ae
  dsimp only
  cases hm:decide (lV (h.bs.getD i (av .bx)).bB n<0)with
  |true=>
   rw[tl fun j af=>?_]
   ·rfl
   ·unfold r2
    cases hx:(h.bs.getD j (av .bx)).id==x with
    |false=>rfl
    |true=>
     have hx:(h.bs.getD j (av .bx)).id=x:=by simpa using hx
     obtain rfl:=YV aP af aa (by rw[hx,ae])
     rw[PY,hm];rfl
  |false=>
   obtain⟨j,af⟩:=GM aP aa hm;rw[YU aa (by unfold r2;rw[ae,PY,hm];simp),vJ,af]
   rfl
theorem find_eq(h:Home)(k:cB):yH h k=tJ h k:=by
 unfold yH tJ
 rw[GR,BZ]
 cases aS:(fj h != 0)with
 |true=>rfl
 |false=>
  have aP:=ih aS
  simp only[cond_false]
  cases hf:cd (fun i=>(h.bs.getD i (av .bx)).id==k.dev) h.bs.length with
  |none=>rfl
  |some i=>
   obtain⟨aa,_,_⟩:=hA hf;unfold pE;simp only
   cases hm:decide (lV (h.bs.getD i (av .bx)).bB k.cG<0)with
   |true=>rfl
   |false=>
    obtain⟨j,af⟩:=GM aP aa hm;rw[look_eq (BX (tH aP)),vJ,af];simp only[cond_false,Option.map_some,Option.getD_some,toNat_cast,PH,Gy,Bool.not_true,Bool.or_false]
    cases cd (fun i=>decide (((h.bB.getD j (av .aA)).attrs.getD i (av .Attr)).name=k.attr)) (h.bB.getD j (av .aA)).attrs.length<;>rfl
theorem YW(h:Home)(q:aT):Ce h q=Cf h q:=by
 unfold Ce Cf
 simp only[find_eq,yx]
theorem FU(c:aA)(x:ByteArray):km c x=ko c x:=by
 unfold km ko
 exact el (fun _ _ _=>rfl) fun _=>rfl
theorem YX{h:Home}(aP:fj h=0)(q:aT):Cg h q=Ch h q:=by
 unfold Cg Ch
 simp only[FZ aP,yx,FU]
theorem YY{q:aT}(aj:1≤q.kind∧q.kind≤7):(bif q.kind==(lX q).kind then bif q.e5==(lX q).e5 then bif q.key.dev==(lX q).key.dev then bif cW q.key.cG (lX q).key.cG then bif cW q.key.attr (lX q).key.attr then bif cW q.name (lX q).name then bif q.value.kind==(lX q).value.kind then bif q.value.n==(lX q).value.n then bif cW q.value.s (lX q).value.s then cW q.text (lX q).text else false else false else false else false else false else false else false else false else false)=vL q:=by
 obtain⟨kind,e5,⟨dev,eU,at_⟩,name,⟨zjt,zju,vs⟩,text⟩:=q
 have aj:kind=1∨kind=2∨kind=3∨kind=4∨kind=5∨kind=6∨kind=7:=by
  have aa:1≤kind∧kind≤7:=aj
  omega
 rcases aj with rfl|rfl|rfl|rfl|rfl|rfl|rfl
 all_goals
  rw[Bool.eq_iff_iff];simp[lX,vL,nk,Gv,tk]
  try grind
theorem GU(h:Home)(q:aT):vM h q=lg h q:=by
 unfold vM lg yI yJ
 rw[BY]
 dsimp only
 cases aS:(fj h != 0)with
 |true=>rfl
 |false=>
  have aP:=ih aS
  simp only[cond_false]
  cases aj:((decide (q.kind<1))||(decide (q.kind>7)))with
  |true=>rfl
  |false=>
   have qJ:1≤q.kind∧q.kind≤7:=by
    simp only[Bool.or_eq_false_iff,decide_eq_false_iff_not]at aj;omega
   rw[YY qJ];simp only[cond_false]
   cases ((decide (q.e5<0))||(decide (q.e5>1099511627776)))with
   |true=>rfl
   |false=>
    cases vL q with
    |false=>rfl
    |true=>
     have: ∀z:Int,z=bif(z != 0)then z else 0:=fun z=>by
      cases aS:(z != 0)with
      |true=>rfl
      |false=>exact ih aS
     refine Eq.trans ?_ (this (yK h q))
     unfold yK;simp only[YW,YX aP,vC,vB]
     cases q.kind==1<;>rfl
end Go.aO
namespace Go.aO
open Go Go.eK
theorem GV{b:ByteArray}{a c:Option Int}:(np b a c).size≤b.size:=by
 cases a<;>cases c<;>simp only[np,ByteArray.size_extract]<;>omega
theorem YZ(x:ByteArray)(z:Int): ∃n:Nat,ez x z=(n:Int)∧n<256:=⟨_,rfl,UInt8.toNat_lt _⟩
theorem Y0{R A B:Type}{Q:B→Prop}{f:R→B}{g:A→B}{l:R⊕A}(aa: ∀r,l= .inl r→Q (f r))(ae: ∀a,l= .inr a→Q (g a)):Q (Sum.elim f g l):=by
 cases l with
 |inl r=>exact aa r rfl
 |inr a=>exact ae a rfl
theorem Y1{R A:Type}{b:A→Step R A}{Q:R→Prop}(h: ∀a r,b a= .ret r→Q r): ∀(n:Nat) (a:A) (r:R),c7 b n a= .inl r→Q r:=by
 intro n
 induction n with
 |zero=>intro a r h;simp[c7]at h
 |succ n a7=>
  intro a r ag;unfold c7 at ag
  split at ag
  ·rename_i eV ad
   cases ag;exact h _ _ ad
  ·cases ag
  ·exact a7 _ _ ag
theorem Y2{R A:Type}{b:A→Step R A}{I:A→Prop}(h: ∀a,I a→(∀bf,b a= .bn bf→I bf)∧∀bf,b a= .cN bf→I bf): ∀(n:Nat) (a bf:A),I a→c7 b n a= .inr bf→I bf:=by
 intro n
 induction n with
 |zero=>intro a bf b2 h;simp[c7]at h;exact h ▸ b2
 |succ n a7=>
  intro a bf b2 ag;unfold c7 at ag
  split at ag
  ·cases ag
  ·rename_i a2 ad
   cases ag;exact(h a b2).2 _ ad
  ·rename_i a2 ad
   exact a7 _ _ ((h a b2).1 _ ad) ag
theorem PZ(z:Int):yL z:=by
 unfold yL
 decide
theorem P0(l:List Int)(v:Int):(List.append l [v]).length=l.length+1:=by
 show(l++[v]).length=_
 rw[List.length_append]
 rfl
theorem Y3{x:ByteArray}(hx:fC x):Ci x:=by
 unfold fC at hx
 unfold Ci
 intro v1 h
 have h:(bL .rem .i64 (x.size:Int) 2 != 0)=false:=h
 have h:(x.size:Int).tmod 2=0:=by simpa[bL]using h
 have aN:bL .quo .i64 (x.size:Int) 2=((x.size/ 2:Nat):Int):=by
  show IntKind.wrap .i64 ((x.size:Int).tdiv 2)=_;rw[Int.tdiv_eq_ediv_of_nonneg (by omega),rS _ (by omega) (by omega)]
  omega
 refine⟨?_,fun d=>0≤d.1∧d.1≤(x.size:Int)∧d.1%2=0∧(d.2.length:Int)≤d.1,fun d=>x.size-d.1.toNat,⟨Int.le_refl _,by show(0:Int)≤_;omega,rfl,Int.le_refl _⟩,?_,?_⟩
 ·show 0≤(0:Int)∧(0:Int)≤bL .quo .i64 (x.size:Int) 2∧bL .quo .i64 (x.size:Int) 2≤(maxLen:Int)∧(1:Int)*bL .quo .i64 (x.size:Int) 2≤281474976710656
  rw[aN];unfold maxLen;omega
 ·show x.size-Int.toNat 0<18446744073709551616
  omega
 ·intro d0 hd
  obtain⟨d1,d2,d3,d4⟩:=hd;intro bR
  have bR:d0.1<(x.size:Int):=of_decide_eq_true bR
  rw[Int.tmod_eq_emod_of_nonneg (by omega)]at h
  have dA:IntKind.wrap .i64 (d0.1+1)=d0.1+1:=rS _ (by omega) (by omega)
  have eW:IntKind.wrap .i64 (d0.1+2)=d0.1+2:=rS _ (by omega) (by omega)
  refine⟨⟨d1,bR⟩,?_,PZ _,PZ _,fun _=>⟨⟨?_,?_⟩,⟨?_,?_,?_,?_⟩,?_⟩⟩
  ·show 0≤IntKind.wrap .i64 (d0.1+1)∧IntKind.wrap .i64 (d0.1+1)<_
   rw[dA];omega
  ·show d0.2.length+1≤maxLen
   unfold maxLen;omega
  ·show(d0.2.length+1)*1≤_
   omega
  ·show 0≤IntKind.wrap .i64 (d0.1+2)
   rw[eW];omega
  ·show IntKind.wrap .i64 (d0.1+2)≤_
   rw[eW];omega
  ·show IntKind.wrap .i64 (d0.1+2)%2=0
   rw[eW];omega
  ·show((List.append d0.2 [_]).length:Int)≤IntKind.wrap .i64 (d0.1+2)
   rw[eW,P0];omega
  ·show x.size-(IntKind.wrap .i64 (d0.1+2)).toNat<x.size-d0.1.toNat
   rw[eW];omega
theorem Y4{x:ByteArray}(hx:fC x):(om x).1.size≤x.size+1:=by
 unfold fC at hx
 unfold om
 dsimp only
 cases ((bL .rem .i64 (x.size:Int) (2:Int)) != 0)with
 |true=>exact Nat.zero_le _
 |false=>
  simp only[cond_false];refine Y0 (Q:=fun r:ByteArray × Int=>r.1.size≤x.size+1) (fun r ag=>?_) (fun c hc=>?_)
  ·have:r=(⟨#[]⟩,4):=by
    refine Y1 (Q:=fun r=>r=(⟨#[]⟩,4)) ?_ _ _ _ ag
    intro a r h;revert h;simp only[cond_eq_ite]
    repeat' split
    ·intro h;cases h;rfl
    ·intro h;cases h
    ·intro h;cases h
   rw[this];exact Nat.zero_le _
  ·have:0≤c.1∧c.1≤(x.size:Int)+1∧(c.2.length:Int)≤c.1:=by
    refine Y2 (I:=fun c:Int × List Int=>0≤c.1∧c.1≤(x.size:Int)+1∧(c.2.length:Int)≤c.1) ?_ _ _ _ ⟨Int.le_refl _,by show(0:Int)≤_;omega,Int.le_refl _⟩ hc
    intro a ba;obtain⟨cf,a2,a3⟩:=ba
    cases bR:decide (a.1<(x.size:Int))with
    |false=>
     simp only[cond_false];refine⟨fun bf h=>(by cases h),fun bf h=>?_⟩
     cases h;exact⟨cf,a2,a3⟩
    |true=>
     have bR:=of_decide_eq_true bR
     simp only[cond_true]
     have eW:IntKind.wrap .i64 (a.1+2)=a.1+2:=rS _ (by omega) (by omega)
     rw[eW];simp only[cond_eq_ite]
     split
     ·exact⟨fun bf h=>(by cases h),fun bf h=>(by cases h)⟩
     ·refine⟨fun bf h=>?_,fun bf h=>(by cases h)⟩
      cases h;refine⟨?_,?_,?_⟩
      ·show 0≤a.1+2;omega
      ·show a.1+2≤_;omega
      ·show((List.append a.2 [_]).length:Int)≤a.1+2
       rw[P0];omega
   show(bytesOf c.2).size≤_;rw[tt];omega
theorem fC.str{x:ByteArray}(h:fC x){a b:Option Int}:fC (np x a b):=by
 unfold fC at h⊢
 have:=GV (b:=x) (a:=a) (c:=b)
 omega
theorem Y5: ∀n:Nat,n<256→(0≤bL .shr .u8 (n:Int) 4∧bL .shr .u8 (n:Int) 4<16)∧(0≤bL .and .u8 (n:Int) 15∧bL .and .u8 (n:Int) 15<16)∧(0≤bL .quo .u8 (n:Int) 16∧bL .quo .u8 (n:Int) 16<16)∧(0≤bL .rem .u8 (n:Int) 16∧bL .rem .u8 (n:Int) 16<16):=by decide+kernel
theorem Y6{d l:List Int}{k:Nat}(hd:d.length≤2*k)(ar:l.length≤2)(aj:k<1000001):(List.length d+List.length l≤maxLen∧(List.length d+List.length l)*1≤140737488355328)∧(List.append d l).length≤2*(k+1):=by
 refine⟨⟨by unfold maxLen;omega,by omega⟩,?_⟩
 show(d++l).length≤_
 rw[List.length_append]
 omega
theorem Y7{x:ByteArray}(h:x.size≤1000000):GX x:=by
 refine⟨⟨by omega,by omega⟩,fun i d=>d.length≤2*i,Nat.zero_le _,fun i d hi hd=>?_⟩
 have hi:i<x.size:=by rwa[Int.toNat_natCast]at hi
 obtain⟨n,hn,ad⟩:=YZ x (i:Int)
 obtain⟨_,_,gO,gg⟩:=Y5 n ad
 rw[hn]
 exact⟨gO,gg,Y6 hd (Nat.le_refl _) (by omega)⟩
def r3(x:ByteArray):Prop:=x.size≤30000
theorem r3.vN{x:ByteArray}(h:r3 x):fC x:=by unfold r3 at h;unfold fC;omega
theorem vO(a b:ByteArray):ByteArray.size (ByteArray.append a b)=a.size+b.size:=ByteArray.size_append
theorem Y8{x:ByteArray}(h:x.size≤4000000):GY x:=by
 show 0≤(x.size:Int)∧(x.size:Int)<9223372036854775808
 omega
theorem Y9(n:Int){x:ByteArray}(h:x.size≤2000000):Cj n x:=by
 unfold Cj
 simp only[vO,tt,List.length_cons,List.length_nil]
 refine⟨by omega,by omega,Y8 ?_⟩
 simp only[vO,tt,List.length_cons,List.length_nil]
 omega
theorem Za(n:Int){x:ByteArray}(h:x.size≤1000000):GZ n x:=by
 intro aW
 have aW:=of_decide_eq_false aW
 have ax:IntKind.wrap .i64 ((x.size:Int)-4)=(x.size:Int)-4:=my (by omega) (by omega)
 rw[ax]
 have ai:=GV (b:=x) (a:=none) (c:=some ((x.size:Int)-4))
 refine⟨⟨by omega,by omega⟩,Y9 n (by omega),⟨by omega,?_⟩⟩
 show((np x none (some ((x.size:Int)-4))).size:Int)≤(x.size:Int)
 omega
theorem Zb(n:Int)(x:ByteArray):(pI n x).1.size≤x.size:=by
 unfold pI
 dsimp only
 cases decide ((x.size:Int)<4)with
 |true=>exact Nat.zero_le _
 |false=>
  simp only[cond_false];generalize hc:cO .neq _ _=c
  cases c with
  |true=>exact Nat.zero_le _
  |false=>exact(GV (b:=x) (a:=none) (c:=some (IntKind.wrap .i64 ((x.size:Int)-4))))
theorem Zc(n:Int){x:ByteArray}(h:r3 x):G0 n x:=by
 have aa:=Y4 h.vN
 have ae:=Zb n (om x).1
 unfold r3 at h
 have ar:eb (pI n (om x).1).1:=by unfold eb;omega
 have ar:eb (⟨(pI n (om x).1).1,0,true⟩:Rd).rest:=ar
 have aE:=yp (n:=24) ar
 have tK:eb (iJ ⟨(pI n (om x).1).1,0,true⟩ 24).1.rest:=by rw[aE];exact yn ar
 have Ck:eb (gV (iJ ⟨(pI n (om x).1).1,0,true⟩ 24).1).1.rest:=by rw[qz tK];exact py tK
 have Zd:eb (gV (gV (iJ ⟨(pI n (om x).1).1,0,true⟩ 24).1).1).1.rest:=by rw[qz Ck];exact py Ck
 exact⟨Y3 (by unfold fC;omega),fun _=>⟨Za n (by omega),fun _=>⟨rU ar,oc tK,oc Ck,oc Zd,fun _=>qB _⟩⟩⟩
theorem Ze(n:Int){x:ByteArray}(h:r3 x)(now:Int)(l:List Int):G1 n x now l:=Zc n h
theorem P1(n:Int):Cl n:=by
 refine⟨fun d=> -1≤d.2∧d.2≤7∧(d.1.size:Int)≤7-d.2,fun d=>(d.2+1).toNat,⟨by decide,by decide,by decide⟩,by decide,fun d hd aP=>?_⟩
 obtain⟨aa,ae,au⟩:=hd
 have aP:=of_decide_eq_true aP
 have aE:IntKind.wrap .u64 d.2=d.2:=by rw[pv];omega
 have bo:IntKind.wrap .u64 (8*d.2)=8*d.2:=by rw[pv];omega
 have cv:IntKind.wrap .i64 (d.2-1)=d.2-1:=my (by omega) (by omega)
 simp only[aE,bo,cv,vO,tt,List.length_cons,List.length_nil]
 refine⟨by omega,by omega,⟨by omega,by omega,by omega⟩,by omega⟩
def G2(n:Int):ByteArray:=bytesOf [(IntKind.wrap .u8 (bL .shr .u64 n (56:Int))),(IntKind.wrap .u8 (bL .shr .u64 n (48:Int))),(IntKind.wrap .u8 (bL .shr .u64 n (40:Int))),(IntKind.wrap .u8 (bL .shr .u64 n (32:Int))),(IntKind.wrap .u8 (bL .shr .u64 n (24:Int))),(IntKind.wrap .u8 (bL .shr .u64 n (16:Int))),(IntKind.wrap .u8 (bL .shr .u64 n (8:Int))),(IntKind.wrap .u8 (bL .shr .u64 n (0:Int)))]
theorem Zf(n:Int):vP n=G2 n:=by kernel_rfl
theorem P2(n:Int):(G2 n).size=8:=by
 unfold G2
 rw[tt]
 rfl
theorem Zg(n:Int){x:ByteArray}(h:x.size≤2000000):Cm n x:=by
 unfold Cm
 simp only[Zf,vO,P2]
 refine⟨P1 n,by omega,P1 n,by omega,?_⟩
 show 0≤(ByteArray.size _:Int)∧(ByteArray.size _:Int)<9223372036854775808
 simp only[vO,P2]
 omega
theorem Zh(n:Int){x:ByteArray}(h:x.size≤2000000):G3 n x:=by
 refine⟨Zg n h,?_⟩
 show x.size+(yM (Cn n x)).size≤_
 unfold yM
 rw[tt]
 simp only[List.length_cons,List.length_nil]
 omega
end Go.aO
namespace Go.aO
open Go Go.eK
theorem Zi(h:Home){l:List cC}{k:Nat}(aj:k<l.length):Co h l (k:Int):=by
 have ai:jD l.length none (some (k:Int)):=tB (by omega) (by omega)
 have aP:0≤(k:Int):=by omega
 have aa:(k:Int)<(l.length:Int):=by omega
 unfold Co
 repeat' (first|exact trivial|exact aP|exact aa|exact ai|exact qB _|intro _|refine And.intro ?_ ?_|refine Exists.intro (fun _ _=>True) (And.intro trivial ?_))
theorem Zj(h:Home)(l:List cC):G4 h l:=by
 refine⟨Gt h,fun _ _=>⟨fun _ _=>True,trivial,fun i _ hi _=>⟨Zi h (by rw[toNat_cast]at hi;omega),fun _=>trivial⟩⟩⟩
def Cp(l:List cC):Prop:=∀m∈l,m.mD.length≤1000000∧m.fZ.length≤1000000
theorem Zk{l:List cC}(ar:Cp l)(x:ByteArray):G5 l x:=by
 refine⟨fun _ _=>True,trivial,fun i _ hi _=>⟨fun _=>?_,fun _=>trivial⟩⟩
 rw[toNat_cast]at hi⊢
 obtain⟨aa,ae⟩:=ar _ (BN (d:=av .cC) hi)
 refine⟨?_,Gn ae⟩
 unfold G6 maxLen
 omega
theorem Zl(h:Home)(x:Int):qK h x:=Gu h x
theorem Zm(h:Home)(k:cB):Cq h k:=PN h k
theorem Zn{h:Home}{d:bx}(aS:qG h d=0):d.bB.length≤4:=by
 unfold qG at aS
 dsimp only at aS
 have:=(hR (by decide) aS).1
 simp only[Bool.or_eq_false_iff,decide_eq_false_iff_not]at this
 omega
theorem Zo(h:Home)(x:Int):(lW h x).1.bB.length≤4:=by
 rw[BZ]
 cases aS:(fj h != 0)with
 |true=>exact Nat.zero_le _
 |false=>
  have aP:=ih aS
  simp only[cond_false]
  cases hf:cd (fun i=>(h.bs.getD i (av .bx)).id==x) h.bs.length with
  |none=>exact Nat.zero_le _
  |some i=>
   have hi:=(hA hf).1
   have ar:=GJ aP
   exact Zn (GK (by omega) (GI aP i hi)).2
theorem Zp{h:Home}{x:Int}{i:Nat}(hi:i<(lW h x).1.bB.length):fj h=0:=by
 rw[BZ]at hi
 cases aS:(fj h != 0)with
 |true=>rw[aS]at hi;exact absurd hi (Nat.not_lt_zero _)
 |false=>exact ih aS
theorem ya{c:aA}(h:oe c=false):c.attrs.length≤12:=by
 unfold oe at h
 dsimp only at h
 rw[toNat_cast,hq (p:=fun i=>decide ((List.length ((List.getD c.commands i (av .Command)).c4):Int)>12)) (F:=fun _=>true) (fun i u=>by simp only[toNat_cast])]at h
 cases hf:cd (fun i=>decide ((List.length ((List.getD c.commands i (av .Command)).c4):Int)>12)) c.commands.length with
 |none=>
  rw[hf]at h;simp only[Bool.or_eq_false_iff,decide_eq_false_iff_not]at h;omega
 |some i=>rw[hf]at h;cases h
theorem Zq{h:Home}(aP:fj h=0)(x:ByteArray):((jE .str (kn h) x).getD (av .aA)).attrs.length≤12:=by
 rw[look_eq (BX (tH aP))]
 cases hf:cd (fun i=>decide ((h.bB.getD i (av .aA)).name=x)) h.bB.length with
 |none=>exact Nat.zero_le _
 |some i=>exact ya (yE (tH aP) i (hA hf).1).1.wide
theorem vk{α:Type}(l:List α)(v:α):(List.append l [v]).length=l.length+1:=by
 show(l++[v]).length=_
 rw[List.length_append]
 rfl
theorem Zr(h:Home)(x:Int):G7 h x:=by
 refine⟨Gu h x,fun k d=>d.length≤12*k,Nat.zero_le _,fun i d hi hd=>?_⟩
 rw[toNat_cast]at hi
 have aW:=Zo h x
 have aP:=Zp hi
 have vj:=Zq aP ((lW h x).1.bB.getD (Int.toNat (i:Int)) (av .str))
 refine⟨fun j e=>e.length≤12*i+j,by show d.length≤_;omega,fun j e af he=>?_,fun c hc=>?_⟩
 ·rw[toNat_cast]at af
  have he:e.length≤12*i+j:=he
  refine⟨?_,?_⟩
  ·show e.length+1≤maxLen∧(e.length+1)*40≤140737488355328
   unfold maxLen;omega
  ·show(List.append e [_]).length≤_
   rw[vk];omega
 ·rw[toNat_cast]at hc
  have hc:c.length≤12*i+_:=hc
  show c.length≤12*(i+1);omega
theorem Zs(h:Home)(q:aT):vQ h q:=by
 unfold vQ
 repeat' (first|exact trivial|exact Zm _ _|exact Zr _ _|intro _|refine And.intro ?_ ?_|refine Exists.intro (fun _ _=>True) (And.intro trivial ?_))
theorem Zt(h:Home)(m:cC)(w:Int)(q:aT):Cr h m w q:=by
 unfold Cr
 repeat' (first|exact trivial|exact Zl _ _|exact Zs _ _|intro _|refine And.intro ?_ ?_|refine Exists.intro (fun _ _=>True) (And.intro trivial ?_))
theorem Zu(h:Home){l:List cC}(ar:Cp l)(x:ByteArray)(w:Int)(q:aT):G8 h l x w q:=⟨Zj h l,fun _=>⟨Zk ar x,fun _=>Zt _ _ _ _⟩⟩
theorem Zv(l:List cS)(x:ByteArray):jV l x=match cd (fun i=>decide ((l.getD i (av .cS)).fc=x)) l.length with
 |some i=>((i:Int),true)
 |none=>match cd (fun i=>cO .gtr (l.getD i (av .cS)).fc x) l.length with
  |some j=>((j:Int),false)
  |none=>((l.length:Int),false):=by
 unfold jV
 dsimp only
 rw[toNat_cast,hq (p:=fun i=>decide ((l.getD i (av .cS)).fc=x)) (F:=fun i=>((i:Int),true)) (fun i u=>by
  simp only[nk,toNat_cast]
  rw[decide_eq_true (show(i:Int)≥0 by omega),cond_true])]
 cases cd (fun i=>decide ((l.getD i (av .cS)).fc=x)) l.length with
 |some i=>rfl
 |none=>
  dsimp only
  rw[decide_eq_false (show ¬(-1:Int)≥0 by omega),cond_false,hq (p:=fun i=>cO .gtr (l.getD i (av .cS)).fc x) (F:=fun i=>((i:Int),false)) (fun i u=>by
   simp only[toNat_cast]
   rw[decide_eq_false (show ¬(i:Int)<0 by omega),cond_false])]
  cases cd (fun i=>cO .gtr (l.getD i (av .cS)).fc x) l.length<;>rfl
theorem Zw(l:List cS)(x:ByteArray):(0≤(jV l x).1∧(jV l x).1≤(l.length:Int))∧((jV l x).2=true→(jV l x).1<(l.length:Int)):=by
 rw[Zv]
 cases hf:cd (fun i=>decide ((l.getD i (av .cS)).fc=x)) l.length with
 |some i=>
  have:=(hA hf).1
  dsimp only;exact⟨⟨by omega,by omega⟩,fun _=>by omega⟩
 |none=>
  dsimp only
  cases ah:cd (fun i=>cO .gtr (l.getD i (av .cS)).fc x) l.length with
  |some j=>
   have:=(hA ah).1
   dsimp only;exact⟨⟨by omega,by omega⟩,fun h=>by cases h⟩
  |none=>
   dsimp only;exact⟨⟨by omega,Int.le_refl _⟩,fun h=>by cases h⟩
theorem Zx{w:fp}(h:yN w=0): -1≤w.top∧w.top≤1099511627776:=by
 unfold yN at h
 simp only[cond_eq_ite]at h
 split at h
 ·rename_i aa
  simp only[Bool.and_eq_true,beq_iff_eq]at aa;omega
 ·split at h
  ·cases h
  ·rename_i ae
   simp only[Bool.or_eq_true,decide_eq_true_eq,not_or]at ae;omega
theorem Zy(w:fp):G9 w:=by
 intro _ ae v10 v11 au
 have au:=of_decide_eq_true au
 simp only[Bool.or_eq_false_iff,decide_eq_false_iff_not]at ae
 show 0≤IntKind.wrap .i64 (w.top+1)
 rw[my (by omega) (by omega)]
 omega
theorem P3(w:fp)(n:Int):Ha w n:=by
 refine⟨Zy w,fun h=>?_⟩
 simp only[Bool.or_eq_false_iff,decide_eq_false_iff_not]at h
 obtain⟨⟨⟨aa,ae⟩,au⟩,_⟩:=h
 obtain⟨t1,t2⟩:=Zx (ih aa)
 refine⟨fun bN _=>?_,fun bN=>?_⟩
 ·have bN:=of_decide_eq_true bN
  show 0≤IntKind.wrap .i64 (n-w.top);rw[my (by omega) (by omega)]
  omega
 ·have bN:=of_decide_eq_false bN
  show 0≤IntKind.wrap .i64 (w.top-n);rw[my (by omega) (by omega)]
  omega
theorem Hb{c:Config}{ms:List cC}{ws:List cS}{aw:List Int}{a:iu}{now oo:Int}(hm:Cp ms)(hw:ws.length≤1000000)(aK:r3 a.token):vR c ms ws aw a now oo:=by
 obtain⟨dK,eX⟩:=Zw ws (lh c.key a.token now aw).1.fc
 unfold vR
 extract_lets bD bS cJ aL cP bP
 have J: ∀z,bP z:=by
  intro z _;refine⟨fun ak=>⟨⟨dK.1,eX ak⟩,⟨dK.1,eX ak⟩,P3 _ _,fun _=>⟨fun _=>⟨⟨dK.1,eX ak⟩,dK.1,eX ak⟩,fun hf=>?_⟩⟩,fun ak=>⟨P3 _ _,fun _=>⟨fun hf=>?_,fun _=>⟨tB dK.1 dK.2,⟨Int.le_refl _,?_⟩,?_⟩⟩⟩⟩
  ·rw[ak]at hf;cases hf
  ·rw[ak]at hf;cases hf
  ·show(0:Int)<1
   decide
  ·show ws.length+1≤maxLen∧(ws.length+1)*32≤140737488355328
   unfold maxLen;omega
 refine⟨⟨?_,?_⟩,Ze _ aK _ _,fun _=>⟨O3 _ _,fun _=>J _,fun _=>⟨Zu _ hm _ _ _,fun _=>J _,fun _=>J _⟩⟩,fun _=>J _⟩
 ·show 0+ws.length≤maxLen
  unfold maxLen;omega
 ·show(0+ws.length)*32≤140737488355328
  omega
end Go.aO
namespace Go.aO
open Go Go.eK
noncomputable def yO(ws:List cS)(name:ByteArray):fp:=bif(jV ws name).2 then(ws.getD (Int.toNat (jV ws name).1) (av .cS)).tL else⟨-1,0⟩
noncomputable def Cs(ws:List cS)(name:ByteArray)(w:fp):List cS:=bif(jV ws name).2 then List.set ws (Int.toNat (jV ws name).1) ⟨(ws.getD (Int.toNat (jV ws name).1) (av .cS)).fc,w⟩else(ws.take (Int.toNat (jV ws name).1)++[⟨name,w⟩])++ws.drop (Int.toNat (jV ws name).1)
noncomputable def Hc(ws:List cS)(name:ByteArray)(n:Int):ByteArray × List cS × Int:=bif !(tM (yO ws name) n).2 then(⟨#[]⟩,ws,18)else(name,Cs ws name (tM (yO ws name) n).1,0)
theorem Zz(c:Config)(ms:List cC)(ws:List cS)(aw:List Int)(a:iu)(now oo:Int):pJ c ms ws aw a now oo=
 bif(lh c.key a.token now aw).2 != 0 then(⟨#[]⟩,ws,(lh c.key a.token now aw).2)else bif(lg c.home a.request) != 0 then(⟨#[]⟩,ws,lg c.home a.request)else
 bif(tN c.home ms (lh c.key a.token now aw).1.fc oo a.request) != 0 then(⟨#[]⟩,ws,tN c.home ms (lh c.key a.token now aw).1.fc oo a.request)else Hc ws (lh c.key a.token now aw).1.fc a.request.e5:=by
 unfold pJ Hc yO Cs
 dsimp only
 generalize lh c.key a.token now aw=v
 generalize lg c.home a.request=x
 generalize tN c.home ms v.1.fc oo a.request=y
 have ax:(v.2 != 0)= !(v.2==0):=rfl
 cases aa:v.2==0 with
 |false=>
  rw[ax,aa];simp only[cond_false,cond_true,Bool.not_false,ax,aa]
 |true=>
  rw[ax,aa];simp only[cond_true,Bool.not_true,cond_false]
  cases ae:(x != 0)with
  |true=>simp only[cond_true,ae]
  |false=>
   simp only[cond_false]
   cases au:(y != 0)with
   |true=>simp only[cond_true,au]
   |false=>
    simp only[cond_false,show((0:Int) != 0)=false from rfl]
    cases (jV ws v.1.fc).2<;>rfl
theorem ZA(ws:List cS)(name:ByteArray)(w:fp):(Cs ws name w).length≤ws.length+1:=by
 unfold Cs
 cases (jV ws name).2 with
 |true=>
  simp only[cond_true,List.length_set];omega
 |false=>
  simp only[cond_false,List.length_append,List.length_take,List.length_drop,List.length_cons,List.length_nil];omega
theorem ZB(c:Config)(ms:List cC)(ws:List cS)(aw:List Int)(a:iu)(now oo:Int):(pJ c ms ws aw a now oo).2.1.length≤ws.length+1:=by
 rw[Zz]
 generalize ((lh c.key a.token now aw).2 != 0)=A
 generalize (lg c.home a.request != 0)=B
 generalize (tN c.home ms (lh c.key a.token now aw).1.fc oo a.request != 0)=C
 unfold Hc
 generalize (tM (yO ws (lh c.key a.token now aw).1.fc) a.request.e5).2=D
 have:=ZA ws (lh c.key a.token now aw).1.fc (tM (yO ws (lh c.key a.token now aw).1.fc) a.request.e5).1
 cases A<;>cases B<;>cases C<;>cases D<;>first|exact this|exact Nat.le_succ _
def vS:eO:=⟨⟨#[97,110,110]⟩,1,0,100⟩
theorem P4:(decide ((yP (7:Int) vS).1.size≤30000)&&(decide ((yQ vS).size≤2000000)&&decide ((Ct (7:Int) (yQ vS)).size≤1000000)))=true:=by kernel_rfl
theorem yR{n:Int}(aa: -1000000≤n)(ae:n≤1000000):ik n:=⟨by omega,by omega⟩
theorem ZC:Cu vS:=by
 have ai:fC (⟨#[97,110,110]⟩:ByteArray):=by unfold fC;decide
 have aa:=yR (n:=1) (by decide) (by decide)
 have aP:=yR (n:=0) (by decide) (by decide)
 have ae:=yR (n:=100) (by decide) (by decide)
 have cf:=vq ai
 have a2:=lR aa
 have a3:=lR aP
 have a4:=lR ae
 unfold Cu
 simp only[vO]
 show BD ⟨#[97,110,110]⟩∧pw 1∧(qx ⟨#[97,110,110]⟩).size+(jT 1).size≤_∧pw 0∧(qx ⟨#[97,110,110]⟩).size+(jT 1).size+(jT 0).size≤_∧pw 100∧(qx ⟨#[97,110,110]⟩).size+(jT 1).size+(jT 0).size+(jT 100).size≤_
 rw[XH ai,Gf aa,Gf aP,Gf ae]
 exact⟨XG ai,BC aa,by omega,BC aP,by omega,BC ae,by omega⟩
theorem ZD:Hd (7:Int) vS:=by
 have h:=P4
 simp only[Bool.and_eq_true,decide_eq_true_eq]at h
 exact⟨rW _,fun _=>⟨ZC,Zh _ h.2.1,Y7 h.2.2⟩⟩
theorem He:r3 (yP (7:Int) vS).1:=by
 have h:=P4
 simp only[Bool.and_eq_true,decide_eq_true_eq]at h
 exact h.1
def ZE:aT:=⟨1,4,⟨1,⟨#[111,110,111,102,102]⟩,⟨#[111,110]⟩⟩,⟨#[]⟩,⟨0,0,⟨#[]⟩⟩,⟨#[]⟩⟩
theorem Xa:Cv=true:=by kernel_rfl
theorem Hf:Cp Cw.2:=fun m hm=>by
 have hm:m∈([⟨⟨#[97,110,110]⟩,4,[],[],false⟩]:List cC):=hm
 rw[List.mem_singleton]at hm
 subst hm
 exact⟨by decide,by decide⟩
theorem Bu:yS:=by
 unfold yS
 extract_lets v0 v3 v6 v10 eY dv cw hs
 have zjv:v6.2.1.length≤1:=ZB _ _ _ _ _ _ _
 have aN:BK ZE:=by
  constructor<;>first|exact yR (by decide) (by decide)|(unfold fC;decide)|(constructor<;>first|exact yR (by decide) (by decide)|(unfold fC;decide))
 refine⟨trivial,ZD,Hb Hf (by decide) He,Hb Hf (by omega) He,Hb Hf (by omega) He,X5 aN,XV (X3 aN),fun h=>⟨Int.le_refl _,?_⟩⟩
 have h:((v3.2==0&&cO .eql v6.1 (⟨#[97,110,110]⟩:ByteArray))&&v6.2.2==0&&(List.length v6.2.1:Int)==1)=true:=h
 simp only[Bool.and_eq_true,beq_iff_eq]at h
 omega
end Go.aO
namespace Go.aO
open Go Go.eK
theorem W8{x:Case}(h:x.members.length≤9223372036854775807):Hg x:=by
 intro _
 show 0≤(x.members.length:Int)∧(x.members.length:Int)<9223372036854775808
 omega
theorem Xd{x:Case}(h:tn ⟨.st .Case,x⟩):x.members.length≤9223372036854775807:=by
 have eD:mE ⟨.li .cC,x.members⟩:=h _ (List.mem_of_getElem? (i:=7) rfl)
 cases eD
 assumption
end Go.aO
