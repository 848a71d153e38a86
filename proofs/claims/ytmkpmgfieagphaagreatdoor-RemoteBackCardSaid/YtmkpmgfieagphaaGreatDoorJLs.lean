/- The check of a home is the reference's. Conditions: none. -/
import Derived.Test.YtmkpmgfieagphaaGreatDoorJLi
import Derived.Test.YtmkpmgfieagphaaGreatDoorJTEk
import Derived.Test.YtmkpmgfieagphaaGreatDoorJPn
namespace Go.aM
open Go Go.eQ
def BW(l:List aK):Prop:=∀i,i<l.length→∀j,j<i→(l.getD j (az .aK)).name≠(l.getD i (az .aK)).name
theorem Gi{l:List aK}(h:ma l=0):BW l:=fun i hi=>(vU h i hi).2
theorem XJ{l:List aK}{x:ByteArray}:(hY (l.map fun c=>(c.name,c)) x=none∧∀c∈l,c.name≠x)∨∃(j:Nat) (c:aK),hY (l.map fun c=>(c.name,c)) x=some c∧l[j]? =some c∧c.name=x∧∀(i:Nat) (d:aK),i<j→l[i]? =some d→d.name≠x:=by
 induction l with
 |nil=>exact .inl ⟨rfl,by simp⟩
 |cons e r a1=>
  by_cases he:e.name=x
  ·exact .inr ⟨0,e,by simp[hY,he],rfl,he,fun i d hi=>absurd hi (by omega)⟩
  ·rcases a1 with⟨aa,ae⟩|⟨j,c,aa,ae,au,aR⟩
   ·exact .inl ⟨by simpa[hY,he]using aa,fun c hc=>by rcases List.mem_cons.1 hc with rfl|hc;exact he;exact ae c hc⟩
   ·refine .inr ⟨j+1,c,by simpa[hY,he]using aa,by simpa using ae,au,fun i d hi hd=>?_⟩
    cases i with
    |zero=>simp at hd;subst hd;exact he
    |succ i=>exact aR i d (by omega) (by simpa using hd)
theorem yN{α:Type}{l:List α}{i:Nat}{a d:α}(h:l[i]? =some a):l.getD i d=a:=by
 rw[List.getD_eq_getElem?_getD,h];rfl
theorem Pc{α:Type}{l:List α}{i:Nat}{a:α}(h:l[i]? =some a):i<l.length:=(List.getElem?_eq_some_iff.1 h).1
theorem XK(l:List aK)(x:ByteArray):hY (l.map fun c=>(c.name,c)) x=(cl (fun i=>decide ((l.getD i (az .aK)).name=x)) l.length).map fun i=>l.getD i (az .aK):=by
 rcases XJ (l:=l) (x:=x)with⟨aa,ae⟩|⟨j,c,aa,ae,au,aR⟩
 ·rw[aa,BP fun j ag=>decide_eq_false (ae _ (BL ag))]
  rfl
 ·rw[aa,yC (Pc ae) (by rw[yN ae];exact decide_eq_true au) fun i hi=>by
   have ar:i<l.length:=Nat.lt_trans hi (Pc ae)
   have:=aR i _ hi (List.getElem?_eq_getElem ar)
   rw[yN (List.getElem?_eq_getElem ar)]
   exact decide_eq_false this]
  show some c=some (l.getD j (az .aK));rw[yN ae]
theorem XL{l:List aK}{c:aK}(h: ∀d∈l,d.name≠c.name):jb (l.map fun c=>(c.name,c)) c.name c=(l++[c]).map fun c=>(c.name,c):=by
 induction l with
 |nil=>rfl
 |cons e r a1=>
  have he:e.name≠c.name:=h e (by simp)
  simp only[List.map_cons,List.cons_append,jb,if_neg he,a1 fun d hd=>h d (by simp[hd])]
theorem Pd{R A:Type}{b:Nat→A→Step R A}(s:Nat→A){n:Nat}(ad: ∀i,i<n→b i (s i)= .br (s (i+1))): ∀(m k:Nat),k+m=n→bp b k m (s k)= .inr (s n)
 |0,k,h=>by rw[show k=n by omega];rfl
 |m+1,k,h=>by
  unfold bp;rw[ad k (by omega)]
  exact Pd s ad m (k+1) (by omega)
theorem XM{h:Home}(hd:BW h.bl):kA h=h.bl.map fun c=>(c.name,c):=by
 unfold kA
 dsimp only
 rw[toNat_cast,show([]:List (ByteArray × aK))=(h.bl.take 0).map fun c=>(c.name,c)from rfl,Pd (fun k=>(h.bl.take k).map fun c=>(c.name,c)) (n:=h.bl.length) (fun i hi=>?_) _ 0 (by omega)]
 ·show(h.bl.take h.bl.length).map _=_
  rw[List.take_length]
 ·rw[toNat_cast]
  show Step.br (jb ((h.bl.take i).map fun c=>(c.name,c)) (h.bl.getD i (az .aK)).name (h.bl.getD i (az .aK)))=_;rw[XL fun d hm=>?_]
  ·rw[List.take_succ_eq_append_getElem hi,yN (List.getElem?_eq_getElem hi)]
  ·obtain⟨j,ag,XN⟩:=Wr.1 hm
   have:=hd i hi j ag
   rw[yN XN]at this;exact this
theorem look_eq{h:Home}(hd:BW h.bl)(x:ByteArray):jJ .str (kA h) x=(cl (fun i=>decide ((h.bl.getD i (az .aK)).name=x)) h.bl.length).map fun i=>h.bl.getD i (az .aK):=by
 rw[XM hd]
 exact XK _ _
theorem yO(h:Home)(x:ByteArray):mb h x=match cl (fun i=>decide ((h.bl.getD i (az .aK)).name=x)) h.bl.length with|some i=>(i:Int)|none=> -1:=by
 unfold mb
 dsimp only
 rw[toNat_cast,ir (p:=fun i=>decide ((h.bl.getD i (az .aK)).name=x)) (F:=fun i=>(i:Int)) (fun i u=>by simp only[l9,toNat_cast])]
 all_goals cases cl (fun i=>decide ((h.bl.getD i (az .aK)).name=x)) h.bl.length<;>rfl
theorem XO{h:Home}(hd:BW h.bl)(d:bB):q5 h d=sw d (kA h):=by
 unfold q5 sw
 dsimp only
 refine congrArg (cond _ 3) ?_
 refine el (fun i a _=>?_) fun _=>rfl
 rw[look_eq hd,yO,Gd]
 unfold q3
 rw[toNat_cast]
 cases hf:cl (fun j=>decide ((h.bl.getD j (az .aK)).name=d.bl.getD i (az .str))) h.bl.length with
 |none=>rfl
 |some j=>
  dsimp only;rw[decide_eq_false (show ¬(j:Int)<0 by omega),toNat_cast]
  rfl
theorem XP{q:Nat→Bool}{n:Nat}:(cl q (n+1)).isSome=((cl q n).isSome||q n):=by
 cases h:cl q n with
 |some i=>
  obtain⟨aa,ae,au⟩:=ja h;rw[yC (by omega) ae au]
  rfl
 |none=>
  have h:=ua h
  cases aJ:q n with
  |true=>rw[yC (Nat.lt_succ_self n) aJ h];rfl
  |false=>
   rw[BP fun j ag=>?_]
   ·rfl
   ·by_cases mU:j=n
    ·rw[mU];exact aJ
    ·exact h j (by omega)
theorem XQ{K V:Type}[DecidableEq K](l:List (K × V))(k x:K)(v:V):hY (jb l k v) x=if k=x then some v else hY l x:=by
 induction l with
 |nil=>simp[jb,hY]
 |cons p r a1=>
  obtain⟨q,w⟩:=p
  by_cases aJ:q=k
  ·subst aJ
   by_cases hx:q=x<;>simp[jb,hY,hx]
  ·by_cases hx:q=x
   ·subst hx
    simp[jb,hY,aJ,Ne.symm aJ]
   ·simp only[jb,if_neg aJ,hY,if_neg hx,a1]
theorem Pe{R A:Type}{b:Nat→A→Step R A}{c:Nat→Unit→Step R Unit}{n:Nat}(I:Nat→A→Prop)
 (h: ∀k a,k<n→I k a→(∃r,b k a= .ret r∧c k ()= .ret r)∨(∃bc,b k a= .br bc∧c k ()= .br ()∧I (k+1) bc)):
 ∀(m k:Nat) (a:A),k+m=n→I k a→(∃r,bp b k m a= .inl r∧bp c k m ()= .inl r)∨(∃bc,bp b k m a= .inr bc∧bp c k m ()= .inr ())
 |0,k,a,_,_=>.inr ⟨a,rfl,rfl⟩
 |m+1,k,a,aj,aY=>by
  rcases h k a (by omega) aY with⟨r,aa,ae⟩|⟨bc,aa,ae,au⟩
  ·exact .inl ⟨r,by simp only[bp,aa],by simp only[bp,ae]⟩
  ·have:=Pe I h m (k+1) bc (by omega) au
   simpa only[bp,aa,ae]using this
theorem XR(d:bB):vV d= !((((((decide (d.id<1))||(decide (d.id>250)))||(decide (d.oJ<0)))||(decide (d.oJ>255)))||((!d.oK)&&(d.kR != 0)))||(d.oK&&((decide (d.kR<4))||(decide (d.kR>3600))))):=by
 unfold vV
 rw[Bool.eq_iff_iff]
 cases d.oK<;>simp only[cond_eq_ite]<;>split<;>simp_all<;>omega
theorem Gj(h:Home):p2 h=gv h:=by
 unfold p2 gv
 rw[O9]
 dsimp only
 cases aa:(ma h.bl != 0)with
 |true=>rfl
 |false=>
  have hd:=Gi (oz aa)
  simp only[cond_false];refine congrArg (cond _ 3) ?_
  rw[toNat_cast]
  have key:=Pe (n:=h.bn.length) (fun k a=>∀x:Int,(hY a x).getD false=(cl (fun j=>decide ((h.bn.getD j (az .bB)).gZ=x)) k).isSome) (b:=fun(i8:Nat) (aU:(List (Int × Bool)))=>
   bif(!(vV (h.bn.getD i8 (az .bB))))then Step.ret (2:Int)else bif((decide ((i8:Int)>0))&&(decide ((h.bn.getD i8 (az .bB)).id≤((List.getD h.bn (Int.toNat (IntKind.wrap .i64 ((i8:Int)-(1:Int)))) (az .bB)).id))))then .ret 14
   else bif((jJ (.int .u64) aU (h.bn.getD i8 (az .bB)).gZ).getD false)then .ret 9 else bif(!(iq (h.bn.getD i8 (az .bB)).room))then .ret 10 else bif(sw (h.bn.getD i8 (az .bB)) (kA h) != 0)then .ret (sw (h.bn.getD i8 (az .bB)) (kA h))else .br (sx (.int .u64) aU (h.bn.getD i8 (az .bB)).gZ true))
   (c:=fun(i5:Nat) (_:Unit)=>bif(p3 h (i5:Int) != 0)then .ret (p3 h (i5:Int))else .br ()) ?_ h.bn.length 0 ([]:List (Int × Bool)) (by omega) (fun x=>rfl)
  ·rcases key with⟨r,b7,a2⟩|⟨bc,b7,a2⟩
   ·simp only[toNat_cast]
    rw[b7,a2];rfl
   ·simp only[toNat_cast]
    rw[b7,a2];rfl
  ·intro k a aj bU
   unfold p3;dsimp only;rw[toNat_cast];generalize XS:h.bn.getD k (az .bB)=d;rw[XR,Bool.not_not,vO,so,XO hd];generalize ((((((decide (d.id<1))||(decide (d.id>250)))||(decide (d.oJ<0)))||(decide (d.oJ>255)))||((!d.oK)&&(d.kR != 0)))||(d.oK&&((decide (d.kR<4))||(decide (d.kR>3600)))))=A
   have h9:decide ((List.getD h.bn (Int.toNat (IntKind.wrap .i64 ((k:Int)-(1:Int)))) (az .bB)).id≥d.id)=decide (d.id≤(List.getD h.bn (Int.toNat (IntKind.wrap .i64 ((k:Int)-(1:Int)))) (az .bB)).id):=rfl
   rw[h9];generalize (decide ((k:Int)>0)&&decide (d.id≤(List.getD h.bn (Int.toNat (IntKind.wrap .i64 ((k:Int)-(1:Int)))) (az .bB)).id))=O
   have gQ:(jJ (.int .u64) a d.gZ).getD false=(cl (fun j=>decide ((h.bn.getD j (az .bB)).gZ=d.gZ)) k).isSome:=bU d.gZ
   rw[gQ,ir (p:=fun j=>decide ((h.bn.getD j (az .bB)).gZ=d.gZ)) (F:=fun _=>(9:Int)) (fun i u=>by simp only[toNat_cast]<;>rfl)]
   have step: ∀x:Int,(hY (jb (K:=Int) a d.gZ true) x).getD false=(cl (fun j=>decide ((h.bn.getD j (az .bB)).gZ=x)) (k+1)).isSome:=fun x=>by
    rw[XQ,XP,XS]
    by_cases hx:d.gZ=x
    ·rw[if_pos hx,decide_eq_true hx,Bool.or_true]
     rfl
    ·rw[if_neg hx,decide_eq_false hx,Bool.or_false]
     exact bU x
   cases A with
   |true=>exact .inl ⟨2,rfl,rfl⟩
   |false=>
    cases O with
    |true=>exact .inl ⟨14,rfl,rfl⟩
    |false=>
     cases cl (fun j=>decide ((h.bn.getD j (az .bB)).gZ=d.gZ)) k with
     |some j=>exact .inl ⟨9,rfl,rfl⟩
     |none=>
      cases valid d.room with
      |false=>exact .inl ⟨10,rfl,rfl⟩
      |true=>
       cases aQ:(sw d (kA h) != 0)with
       |true=>exact .inl ⟨_,rfl,by simp only[Bool.not_true,cond_false,cond_true,aQ]⟩
       |false=>exact .inr ⟨_,rfl,by simp only[Bool.not_true,cond_false,aQ],step⟩
end Go.aM
namespace Go.aM
open Go Go.eQ
theorem sy{h:Home}(aH:gv h=0):ma h.bl=0:=by
 unfold gv at aH
 exact(p0 aH).1
theorem XT{h:Home}(aH:gv h=0)(x:ByteArray): ∀a∈((jJ .str (kA h) x).getD (az .aK)).attrs,a.enum.length≤64:=by
 rw[look_eq (Gi (sy aH))]
 cases hf:cl (fun i=>decide ((h.bl.getD i (az .aK)).name=x)) h.bl.length with
 |none=>exact fun a aY=>by cases aY
 |some i=>exact(vU (sy aH) i (ja hf).1).1.enum
theorem Gk(h:Home)(x:Int):mc h x=bif(gv h != 0)then(⟨0,0,0,false,0,⟨#[]⟩,[]⟩,false)else match cl (fun i=>(h.bn.getD i (az .bB)).id==x) h.bn.length with|some i=>(h.bn.getD i (az .bB),true)|none=>(⟨0,0,0,false,0,⟨#[]⟩,[]⟩,false):=by
 unfold mc
 dsimp only
 rw[toNat_cast,ir (p:=fun i=>(h.bn.getD i (az .bB)).id==x) (F:=fun i=>(h.bn.getD i (az .bB),true)) (fun i u=>by simp only[toNat_cast])]
 all_goals refine congrArg (cond _ _) ?_
 all_goals cases cl (fun i=>(h.bn.getD i (az .bB)).id==x) h.bn.length<;>rfl
theorem XU{h:Home}{x:Int}(ae:(mc h x).2=true):gv h=0:=by
 rw[Gk]at ae
 cases aQ:(gv h != 0)with
 |true=>rw[aQ]at ae;cases ae
 |false=>exact oz aQ
theorem Pf(h:Home)(k:dm):BX h k:=by
 have key: ∀v6:Int,(((!(mc h k.dev).2)||(decide (v6<0)))=false→yz ((jJ .str (kA h) k.cU).getD (az .aK)) k.attr):=fun v6 aw=>by
  simp only[Bool.or_eq_false_iff,Bool.not_eq_false']at aw;exact O1 (XT (XU aw.1) _)
 exact⟨Gc _ _,fun _=>key _,fun _=>key _⟩
theorem XV(h:Home)(q:bK):BY h q:=by
 unfold BY
 repeat' (first|exact Pf _ _|exact F5 _ _|intro _|refine And.intro ?_ ?_)
theorem XW(h:Home)(x:Int)(n:ByteArray):Gl h x n:=by
 refine⟨fun _ _=>True,trivial,fun i _ hi _=>⟨fun _=>⟨fun _=>?_,fun _=>trivial⟩,fun _=>⟨fun _=>?_,fun _=>trivial⟩⟩,fun _ _=>?_⟩
 all_goals
  exact fun _=>⟨fun _ _=>True,trivial,fun i _ hi _=>⟨fun _ _=>⟨by omega,by rw[toNat_cast]at hi;omega⟩,fun _=>trivial⟩,fun _ _ h=>absurd (of_decide_eq_false h) (by decide)⟩
theorem XX{c:aK}(hc:p1 c)(x:ByteArray):Gm c x:=by
 refine⟨fun _ _=>True,trivial,fun i _ hi _=>⟨fun _=>?_,fun _=>trivial⟩⟩
 rw[toNat_cast]at hi
 have hm:=BL (d:=az .Command) hi
 rw[toNat_cast]
 exact⟨F3 (by have:=hc.par _ hm;omega),Xi (by have:=hc.XH _ hm;omega)⟩
noncomputable def yP(h:Home)(x:Int)(n:ByteArray):Nat→Bool:=fun i=>((h.bn.getD i (az .bB)).id==x)&&jI (h.bn.getD i (az .bB)).bl n
theorem XY(h:Home)(x:Int)(n:ByteArray):sz h x n=bif(cl (yP h x n) h.bn.length).isSome then(match cl (fun i=>decide ((h.bl.getD i (az .aK)).name=n)) h.bl.length with|some i=>(h.bl.getD i (az .aK),true)|none=>(⟨⟨#[]⟩,[],[],[]⟩,false))else(⟨⟨#[]⟩,[],[],[]⟩,false):=by
  unfold sz;dsimp only;rw[toNat_cast,toNat_cast]
  have kS: ∀v3:Int,0≤v3→(bif !(decide (v3≥0))then((⟨⟨#[]⟩,[],[],[]⟩:aK),false)else Sum.elim (fun r=>r) (fun _=>bif decide ((-1:Int)<0)then(⟨⟨#[]⟩,[],[],[]⟩,false)else(h.bl.getD (Int.toNat (-1)) (az .aK),true))
      (bp (fun(i7:Nat) (_:Unit)=>bif(cq .eql ((List.getD h.bl (Int.toNat (i7:Int)) (az .aK)).name) n)then(.ret (bif decide ((i7:Int)<0)then(⟨⟨#[]⟩,[],[],[]⟩,false)else(h.bl.getD (Int.toNat (i7:Int)) (az .aK),true)):Step (aK × Bool) Unit)else .br ()) 0 h.bl.length ()))=(match cl (fun i=>decide ((h.bl.getD i (az .aK)).name=n)) h.bl.length with|some i=>(h.bl.getD i (az .aK),true)|none=>(⟨⟨#[]⟩,[],[],[]⟩,false)):=fun v3 au=>by
    rw[decide_eq_true au,ir (p:=fun i=>decide ((h.bl.getD i (az .aK)).name=n)) (F:=fun i=>(h.bl.getD i (az .aK),true)) (fun i u=>by
      simp only[l9,toNat_cast]
      rw[decide_eq_false (show ¬(i:Int)<0 by omega),cond_false])]
    cases cl (fun i=>decide ((h.bl.getD i (az .aK)).name=n)) h.bl.length<;>rfl
  rw[ir (p:=yP h x n) (F:=fun _=>(match cl (fun i=>decide ((h.bl.getD i (az .aK)).name=n)) h.bl.length with|some i=>(h.bl.getD i (az .aK),true)|none=>(⟨⟨#[]⟩,[],[],[]⟩,false))) (fun i u=>by
    unfold yP;simp only[toNat_cast]
    cases (h.bn.getD i (az .bB)).id==x with
    |false=>rfl
    |true=>
      simp only[cond_true,Bool.true_and]
      cases jI (h.bn.getD i (az .bB)).bl n with
      |false=>rfl
      |true=>
        simp only[cond_true]
        have:=kS (i:Int) (by omega)
        simp only[toNat_cast]at this
        rw[this])]
  cases cl (yP h x n) h.bn.length<;>rfl
theorem XZ{h:Home}{x:Int}{n:ByteArray}(aH:gv h=0)(ae:(sz h x n).2=true):p1 (sz h x n).1:=by
 rw[XY]at ae⊢
 cases aa:(cl (yP h x n) h.bn.length).isSome with
 |false=>rw[aa]at ae;cases ae
 |true=>
  rw[aa]at ae;simp only[cond_true]at ae⊢
  cases hf:cl (fun i=>decide ((h.bl.getD i (az .aK)).name=n)) h.bl.length with
  |none=>rw[hf]at ae;cases ae
  |some i=>exact(vU (sy aH) i (ja hf).1).1
theorem X0{h:Home}(aH:gv h=0)(q:bK):Gn h q:=by
 refine⟨XW _ _ _,fun ae=>⟨XX (XZ aH ?_) _,fun _ _=>F5 _ _⟩⟩
 cases au:(sz h q.key.dev q.key.cU).2 with
 |true=>rfl
 |false=>rw[au]at ae;cases ae
theorem Pg{h:Home}(aH:gv h=0)(q:bK):BZ h q:=by
 unfold BZ
 repeat' (first|exact XV _ _|exact X0 aH _|exact qZ _|intro _|refine And.intro ?_ ?_)
theorem X1(h:Home)(q:bK):Gp h q:=by
 refine⟨Gb h,fun aH _ _=>⟨fun _ _=>Pg (oz aH) q,fun _ _=>Pg (oz aH) q⟩⟩
end Go.aM
namespace Go.aM
open Go Go.eQ
theorem B0(a:Attr):ud a:=by
 unfold ud
 repeat' (first|exact trivial|exact sq _|(refine Exists.intro (fun _ _=>True) (And.intro trivial ?_);intro i _ hi _;refine⟨sq _,fun _=>⟨tZ (by omega) (by rw[toNat_cast]at hi;omega),fun _=>trivial⟩⟩)|intro _|refine And.intro ?_ ?_)
theorem Ph(x y:List ByteArray):B1 x y:=O2 x y
theorem X2(a b:Attr):Gq a b:=fun _=>Ph _ _
theorem Pj(c:aK)(x:ByteArray):B2 c x:=by
 intro h
 have h:decide (oG c x<0)=false:=h
 show 0≤oG c x∧oG c x<(c.attrs.length:Int)
 rw[Gg]at h⊢
 cases hf:cl (fun i=>decide ((c.attrs.getD i (az .Attr)).name=x)) c.attrs.length with
 |none=>rw[hf]at h;cases h
 |some i=>
  have:=(ja hf).1
  dsimp only;omega
theorem Gr(a:Attr)(v:cD):yQ a v:=⟨B0 a,fun _=>B0 a⟩
theorem X3(x:cM)(a b:Attr):B3 x a b:=by
 unfold B3
 repeat' (first|exact Gr _ _|exact Ph _ _|intro _|refine And.intro ?_ ?_)
theorem X4(c:aK)(a:Attr)(x:cM):B4 c a x:=by
 unfold B4
 repeat' (first|exact Pj _ _|exact X3 _ _ _|intro _|refine And.intro ?_ ?_)
theorem X5{c:aK}{k:Nat}(aj:k<c.commands.length)(ad:k<1000000):Gs c (k:Int):=by
 refine⟨⟨by omega,by omega⟩,sq _,fun _=>⟨⟨by omega,by omega⟩,⟨fun _ _=>True,trivial,fun i _ hi _=>⟨⟨by omega,?_⟩,fun _=>trivial⟩,fun _ _=>?_⟩⟩⟩
 ·rw[toNat_cast]at hi
  omega
 ·repeat' (first|exact trivial|exact B0 _|exact X2 _ _|exact X4 _ _ _|intro _|refine And.intro ?_ ?_|refine Exists.intro (fun _ _=>True) (And.intro trivial ?_))
theorem X6{c:aK}(h:oI c=false):c.commands.length≤12∧c.events.length≤12:=by
 unfold oI at h
 dsimp only at h
 rw[toNat_cast,ir (p:=fun i=>decide ((List.length ((List.getD c.commands i (az .Command)).gj):Int)>12)) (F:=fun _=>true) (fun i u=>by simp only[toNat_cast])]at h
 cases hf:cl (fun i=>decide ((List.length ((List.getD c.commands i (az .Command)).gj):Int)>12)) c.commands.length with
 |none=>
  rw[hf]at h;simp only[Bool.or_eq_false_iff,decide_eq_false_iff_not]at h;omega
 |some i=>rw[hf]at h;cases h
theorem X7(c:aK):Gt c:=by
 refine⟨sq _,fun _ hw=>?_⟩
 rw[O8]at hw
 obtain⟨aa,ae⟩:=X6 hw
 refine⟨fun _ _=>True,trivial,fun i _ hi _=>⟨B0 _,fun _ _=>trivial⟩,fun _ _=>⟨fun _ _=>True,trivial,fun i _ hi _=>⟨X5 (by rw[toNat_cast]at hi;omega) (by rw[toNat_cast]at hi;omega),fun _=>trivial⟩,fun _ _=>⟨fun _ _=>True,trivial,fun i _ hi _=>⟨sq _,fun _=>⟨⟨by omega,by rw[toNat_cast]at hi;omega⟩,⟨fun _ _=>True,trivial,fun j _ ag _=>⟨⟨by omega,?_⟩,fun _=>trivial⟩,fun _ _=>trivial⟩⟩⟩⟩⟩⟩
 rw[toNat_cast]at hi ag
 omega
theorem X8(l:List aK):Gu l:=by
 refine fun ar=>⟨fun _ _=>True,trivial,fun i _ hi _=>⟨X7 _,fun _=>⟨⟨by omega,?_⟩,⟨fun _ _=>True,trivial,fun j _ ag _=>⟨⟨by omega,?_⟩,fun _=>trivial⟩,fun _ _=>trivial⟩⟩⟩⟩
 ·have ar:=of_decide_eq_false ar
  rw[toNat_cast]at hi;omega
 ·rw[toNat_cast]at hi ag
  omega
theorem Pk{h:Home}(ad:h.bl.length≤1000000)(x:ByteArray):B5 h x:=by
 show 0≤(h.bl.length:Int)∧(h.bl.length:Int)<9223372036854775808
 omega
theorem X9{h:Home}{x:ByteArray}(aw:decide (mb h x<0)=false):0≤mb h x∧mb h x<(h.bl.length:Int):=by
 rw[yO]at aw⊢
 cases hf:cl (fun i=>decide ((h.bl.getD i (az .aK)).name=x)) h.bl.length with
 |none=>rw[hf]at aw;cases aw
 |some i=>
  have:=(ja hf).1
  dsimp only;omega
theorem Ya{h:Home}(ad:h.bl.length≤1000000)(d:bB):Gv h d:=
 fun _=>⟨fun _ _=>True,trivial,fun _ _ _ _=>⟨Pk ad _,fun aw _=>⟨X9 aw,trivial⟩⟩⟩
theorem Yb{h:Home}(ad:h.bl.length≤1000000){k:Nat}(aj:k<h.bn.length)(Pl:k<1000000):Gw h (k:Int):=by
 refine⟨⟨by omega,by omega⟩,fun _=>⟨fun aw=>?_,fun _=>⟨⟨by omega,by omega⟩,⟨fun _ _=>True,trivial,fun i _ hi _=>⟨⟨by omega,by rw[toNat_cast]at hi;omega⟩,fun _=>trivial⟩,fun _ _=>⟨sq _,fun _=>Ya ad _⟩⟩⟩⟩⟩
 have aw:=of_decide_eq_true aw
 show 0≤IntKind.wrap .i64 ((k:Int)-1)∧IntKind.wrap .i64 ((k:Int)-1)<(h.bn.length:Int)
 rw[sr (by omega) (by omega)]
 omega
theorem Yc{l:List aK}(h:ma l=0):l.length≤256:=by
 unfold ma at h
 dsimp only at h
 have:=of_decide_eq_false (gu (by decide) h).1
 omega
theorem Pm(h:Home):B6 h:=by
 refine⟨X8 _,fun aa au=>⟨fun _ _=>True,trivial,fun i _ hi _=>⟨?_,fun _=>trivial⟩⟩⟩
 have aa:=oz aa
 rw[O9]at aa
 have au:=of_decide_eq_false au
 rw[toNat_cast]at hi
 exact Yb (by have:=Yc aa;omega) hi (by omega)
theorem Pn(h:Home)(x:Int):p4 h x=match cl (fun i=>(h.bn.getD i (az .bB)).id==x) h.bn.length with|some i=>(i:Int)|none=> -1:=by
 unfold p4
 dsimp only
 rw[toNat_cast,ir (p:=fun i=>(h.bn.getD i (az .bB)).id==x) (F:=fun i=>(i:Int)) (fun i u=>by simp only[toNat_cast])]
 all_goals cases cl (fun i=>(h.bn.getD i (az .bB)).id==x) h.bn.length<;>rfl
theorem Po{h:Home}(aH:gv h=0): ∀k,k<h.bn.length→p3 h (k:Int)=0:=by
 rw[←Gj]at aH
 unfold p2 at aH
 dsimp only at aH
 obtain⟨_,aH⟩:=p0 aH
 obtain⟨_,aH⟩:=gu (by decide) aH
 simp only[toNat_cast]at aH
 exact((sv (e:=fun i=>p3 h (i:Int)) fun i hi=>rfl).1 aH).1
theorem Pp{h:Home}(aH:gv h=0):h.bn.length≤20:=by
 unfold gv at aH
 dsimp only at aH
 obtain⟨_,aH⟩:=p0 aH
 have:=of_decide_eq_false (gu (by decide) aH).1
 omega
theorem Pq{h:Home}{k:Nat}(ad:k<1000000)(aQ:p3 h (k:Int)=0):(0<k→(h.bn.getD (k-1) (az .bB)).id<(h.bn.getD k (az .bB)).id)∧q5 h (h.bn.getD k (az .bB))=0:=by
 unfold p3 at aQ
 simp only[toNat_cast]at aQ
 obtain⟨_,aQ⟩:=gu (by decide) aQ
 obtain⟨an,aQ⟩:=gu (by decide) aQ
 obtain⟨_,aQ⟩:=(sv (e:=fun i=>bif((h.bn.getD i (az .bB)).gZ==(h.bn.getD k (az .bB)).gZ)then 9 else 0) fun i hi=>by
  cases ((h.bn.getD i (az .bB)).gZ==(h.bn.getD k (az .bB)).gZ)<;>rfl).1 aQ
 obtain⟨_,aQ⟩:=gu (by decide) aQ
 refine⟨fun aj=>?_,aQ⟩
 rw[decide_eq_true (show(k:Int)>0 by omega),Bool.true_and]at an
 have an:=of_decide_eq_false an
 rw[sr (by omega) (by omega),show((k:Int)-1).toNat=k-1 by omega]at an
 omega
theorem Pr{A:Type}{b:Nat→A→Step Int A}{g:A→Int}{n:Nat}(ad: ∀i a,(∃r,b i a= .ret r∧r≠0)∨∃bc,b i a= .br bc): ∀m k a,k+m=n→Sum.elim (fun r=>r) g (bp b k m a)=0→∀i,k≤i→i<n→∃a bc,b i a= .br bc
 |0,k,_,aj,_,i,aa,ae=>by omega
 |m+1,k,a,aj,aH,i,aa,ae=>by
  unfold bp at aH
  rcases ad k a with⟨r,af,b5⟩|⟨bc,aY⟩
  ·rw[af]at aH
   exact absurd aH b5
  ·rw[aY]at aH
   by_cases q6:i=k
   ·subst q6
    exact⟨a,bc,aY⟩
   ·exact Pr ad m (k+1) bc (by omega) aH i (by omega) ae
theorem Yd{h:Home}{d:bB}(aQ:q5 h d=0): ∀i,i<d.bl.length→∃j,cl (fun j=>decide ((h.bl.getD j (az .aK)).name=d.bl.getD i (az .str))) h.bl.length=some j:=by
 unfold q5 at aQ
 simp only[toNat_cast]at aQ
 obtain⟨_,aQ⟩:=gu (by decide) aQ
 intro i hi
 obtain⟨a,bc,aY⟩:=Pr (n:=d.bl.length) (fun i a=>by
  cases decide (mb h (d.bl.getD i (az .str))<0)with
  |true=>exact .inl ⟨8,rfl,by decide⟩
  |false=>
   cases decide (q1 d.bl (d.bl.getD i (az .str))<(i:Int))with
   |true=>exact .inl ⟨9,rfl,by decide⟩
   |false=>exact .inr ⟨_,rfl⟩) _ 0 _ (by omega) aQ i (by omega) hi
 rw[yO]at aY
 cases hf:cl (fun j=>decide ((h.bl.getD j (az .aK)).name=d.bl.getD i (az .str))) h.bl.length with
 |some j=>exact⟨j,rfl⟩
 |none=>
  rw[hf]at aY;cases aY
theorem Ps{h:Home}(aH:gv h=0){i:Nat}(hi:i<h.bn.length){n:ByteArray}(hm:decide (q0 (h.bn.getD i (az .bB)).bl n<0)=false): ∃j,cl (fun j=>decide ((h.bl.getD j (az .aK)).name=n)) h.bl.length=some j:=by
 have ar:=Pp aH
 have hc:=Yd (Pq (by omega) (Po aH i hi)).2
 rw[BR]at hm
 cases hf:cl (fun k=>decide (n=(h.bn.getD i (az .bB)).bl.getD k (az .str))) (h.bn.getD i (az .bB)).bl.length with
 |none=>rw[hf]at hm;cases hm
 |some k=>
  obtain⟨aa,ae,_⟩:=ja hf;rw[of_decide_eq_true ae];exact hc k aa
theorem Pt{h:Home}(ad:h.bl.length≤1000000)(hd:h.bn.length≤1000000)(x:Int)(n:ByteArray):B7 h x n:=by
 refine⟨⟨by omega,by omega⟩,?_⟩
 intro v4
 cases aw:v4 with
 |true=>exact⟨fun _=>⟨(fun h=>by cases h),fun _ h=>(by cases h),fun h=>(by cases h)⟩,fun h=>by cases h⟩
 |false=>
  have aw:decide (p4 h x<0)=false:=aw
  have af:0≤p4 h x∧p4 h x<(h.bn.length:Int):=by
   rw[Pn]at aw⊢
   cases hf:cl (fun i=>(h.bn.getD i (az .bB)).id==x) h.bn.length with
   |none=>rw[hf]at aw;cases aw
   |some i=>
    have:=(ja hf).1
    dsimp only;omega
  refine⟨(fun h=>by cases h),fun _=>⟨Pm h,fun dM=>af,fun dM hv=>?_,fun dM hv=>?_⟩⟩
  ·rw[dM]at hv
   cases hv
  ·refine⟨Pk ad _,?_⟩
   have dM:(false||(p2 h != 0))=false:=dM
   rw[dM]at hv
   have aH:p2 h=0:=by simpa using dM
   rw[Gj]at aH
   have hv:decide (q1 (h.bn.getD (Int.toNat (p4 h x)) (az .bB)).bl n<0)=false:=hv
   rw[Gd]at hv;obtain⟨j,ag⟩:=Ps aH (i:=Int.toNat (p4 h x)) (by omega) hv
   show 0≤mb h n∧mb h n<(h.bl.length:Int);rw[yO,ag]
   have:=(ja ag).1
   dsimp only;omega
theorem Ye{h:Home}(ad:h.bl.length≤1000000)(hd:h.bn.length≤1000000)(k:dm):Gx h k:=⟨Pt ad hd _ _,fun _=>Pj _ _⟩
theorem Yf{h:Home}(ad:h.bl.length≤1000000)(hd:h.bn.length≤1000000)(q:bK):Gy h q:=⟨Ye ad hd _,fun _ _ _=>Gr _ _⟩
theorem Yg{h:Home}(ad:h.bl.length≤1000000)(hd:h.bn.length≤1000000)(q:bK):Gz h q:=⟨Pt ad hd _ _,fun _ _ _=>Gr _ _⟩
theorem Wf{h:Home}(ad:h.bl.length≤1000000)(hd:h.bn.length≤1000000)(q:bK):B8 h q:=by
 unfold B8
 repeat' (first|exact trivial|exact Pm _|exact Yf ad hd _|exact Yg ad hd _|exact sq _|intro _|refine And.intro ?_ ?_)
end Go.aM
namespace Go.aM
open Go Go.eQ
theorem Yh(h:Home)(x:Int)(n:ByteArray):mV h x n=bif(gv h != 0)then(⟨⟨#[]⟩,[],[],[]⟩,false)else match cl (fun i=>(h.bn.getD i (az .bB)).id==x) h.bn.length with
 |none=>(⟨⟨#[]⟩,[],[],[]⟩,false)
 |some i=>bif decide (q0 (h.bn.getD i (az .bB)).bl n<0)then(⟨⟨#[]⟩,[],[],[]⟩,false)else(h.bl.getD (Int.toNat (mb h n)) (az .aK),true):=by
 unfold mV
 rw[Pn,Gj]
 dsimp only
 cases hf:cl (fun i=>(h.bn.getD i (az .bB)).id==x) h.bn.length with
 |none=>
  cases gv h != 0<;>rfl
 |some i=>
  dsimp only;rw[decide_eq_false (show ¬(i:Int)<0 by omega),toNat_cast,Gd]
  cases gv h != 0<;>rfl
theorem Yi(c:aK)(x:ByteArray):ue c x=vW c x:=by
 unfold ue vW
 exact el (fun _ _ _=>rfl) fun _=>rfl
end Go.aM
namespace Go.aM
open Go Go.eQ
theorem GA{b:ByteArray}{a c:Option Int}:(nK b a c).size≤b.size:=by
 cases a<;>cases c<;>simp only[nK,ByteArray.size_extract]<;>omega
theorem Yj(x:ByteArray)(z:Int): ∃n:Nat,ez x z=(n:Int)∧n<256:=⟨_,rfl,UInt8.toNat_lt _⟩
theorem Yk{R A B:Type}{Q:B→Prop}{f:R→B}{g:A→B}{l:R⊕A}(aa: ∀r,l= .inl r→Q (f r))(ae: ∀a,l= .inr a→Q (g a)):Q (Sum.elim f g l):=by
 cases l with
 |inl r=>exact aa r rfl
 |inr a=>exact ae a rfl
theorem Yl{R A:Type}{b:A→Step R A}{Q:R→Prop}(h: ∀a r,b a= .ret r→Q r): ∀(n:Nat) (a:A) (r:R),c0 b n a= .inl r→Q r:=by
 intro n
 induction n with
 |zero=>intro a r h;simp[c0]at h
 |succ n a1=>
  intro a r af;unfold c0 at af
  split at af
  ·rename_i eR ad
   cases af;exact h _ _ ad
  ·cases af
  ·exact a1 _ _ af
theorem Ym{R A:Type}{b:A→Step R A}{I:A→Prop}(h: ∀a,I a→(∀bc,b a= .br bc→I bc)∧∀bc,b a= .cI bc→I bc): ∀(n:Nat) (a bc:A),I a→c0 b n a= .inr bc→I bc:=by
 intro n
 induction n with
 |zero=>intro a bc bU h;simp[c0]at h;exact h ▸ bU
 |succ n a1=>
  intro a bc bU af;unfold c0 at af
  split at af
  ·cases af
  ·rename_i a2 ad
   cases af;exact(h a bU).2 _ ad
  ·rename_i a2 ad
   exact a1 _ _ ((h a bU).1 _ ad) af
theorem Pu(z:Int):yR z:=by
 unfold yR
 decide
theorem Pv(l:List Int)(v:Int):(List.append l [v]).length=l.length+1:=by
 show(l++[v]).length=_
 rw[List.length_append]
 rfl
theorem Yn{x:ByteArray}(hx:eM x):B9 x:=by
 unfold eM at hx
 unfold B9
 intro v1 h
 have h:(bD .rem .i64 (x.size:Int) 2 != 0)=false:=h
 have h:(x.size:Int).tmod 2=0:=by simpa[bD]using h
 have aJ:bD .quo .i64 (x.size:Int) 2=((x.size/ 2:Nat):Int):=by
  show IntKind.wrap .i64 ((x.size:Int).tdiv 2)=_;rw[Int.tdiv_eq_ediv_of_nonneg (by omega),pQ _ (by omega) (by omega)]
  omega
 refine⟨?_,fun d=>0≤d.1∧d.1≤(x.size:Int)∧d.1%2=0∧(d.2.length:Int)≤d.1,fun d=>x.size-d.1.toNat,⟨Int.le_refl _,by show(0:Int)≤_;omega,rfl,Int.le_refl _⟩,?_,?_⟩
 ·show 0≤(0:Int)∧(0:Int)≤bD .quo .i64 (x.size:Int) 2∧bD .quo .i64 (x.size:Int) 2≤(maxLen:Int)∧(1:Int)*bD .quo .i64 (x.size:Int) 2≤281474976710656
  rw[aJ];unfold maxLen;omega
 ·show x.size-Int.toNat 0<18446744073709551616
  omega
 ·intro d0 hd
  obtain⟨d1,d2,d3,d4⟩:=hd;intro bI
  have bI:d0.1<(x.size:Int):=of_decide_eq_true bI
  rw[Int.tmod_eq_emod_of_nonneg (by omega)]at h
  have dx:IntKind.wrap .i64 (d0.1+1)=d0.1+1:=pQ _ (by omega) (by omega)
  have eS:IntKind.wrap .i64 (d0.1+2)=d0.1+2:=pQ _ (by omega) (by omega)
  refine⟨⟨d1,bI⟩,?_,Pu _,Pu _,fun _=>⟨⟨?_,?_⟩,⟨?_,?_,?_,?_⟩,?_⟩⟩
  ·show 0≤IntKind.wrap .i64 (d0.1+1)∧IntKind.wrap .i64 (d0.1+1)<_
   rw[dx];omega
  ·show d0.2.length+1≤maxLen
   unfold maxLen;omega
  ·show(d0.2.length+1)*1≤_
   omega
  ·show 0≤IntKind.wrap .i64 (d0.1+2)
   rw[eS];omega
  ·show IntKind.wrap .i64 (d0.1+2)≤_
   rw[eS];omega
  ·show IntKind.wrap .i64 (d0.1+2)%2=0
   rw[eS];omega
  ·show((List.append d0.2 [_]).length:Int)≤IntKind.wrap .i64 (d0.1+2)
   rw[eS,Pv];omega
  ·show x.size-(IntKind.wrap .i64 (d0.1+2)).toNat<x.size-d0.1.toNat
   rw[eS];omega
theorem Yo{x:ByteArray}(hx:eM x):(oL x).1.size≤x.size+1:=by
 unfold eM at hx
 unfold oL
 dsimp only
 cases ((bD .rem .i64 (x.size:Int) (2:Int)) != 0)with
 |true=>exact Nat.zero_le _
 |false=>
  simp only[cond_false];refine Yk (Q:=fun r:ByteArray × Int=>r.1.size≤x.size+1) (fun r af=>?_) (fun c hc=>?_)
  ·have:r=(⟨#[]⟩,4):=by
    refine Yl (Q:=fun r=>r=(⟨#[]⟩,4)) ?_ _ _ _ af
    intro a r h;revert h;simp only[cond_eq_ite]
    repeat' split
    ·intro h;cases h;rfl
    ·intro h;cases h
    ·intro h;cases h
   rw[this];exact Nat.zero_le _
  ·have:0≤c.1∧c.1≤(x.size:Int)+1∧(c.2.length:Int)≤c.1:=by
    refine Ym (I:=fun c:Int × List Int=>0≤c.1∧c.1≤(x.size:Int)+1∧(c.2.length:Int)≤c.1) ?_ _ _ _ ⟨Int.le_refl _,by show(0:Int)≤_;omega,Int.le_refl _⟩ hc
    intro a aY;obtain⟨b7,a2,a3⟩:=aY
    cases bI:decide (a.1<(x.size:Int))with
    |false=>
     simp only[cond_false];refine⟨fun bc h=>(by cases h),fun bc h=>?_⟩
     cases h;exact⟨b7,a2,a3⟩
    |true=>
     have bI:=of_decide_eq_true bI
     simp only[cond_true]
     have eS:IntKind.wrap .i64 (a.1+2)=a.1+2:=pQ _ (by omega) (by omega)
     rw[eS];simp only[cond_eq_ite]
     split
     ·exact⟨fun bc h=>(by cases h),fun bc h=>(by cases h)⟩
     ·refine⟨fun bc h=>?_,fun bc h=>(by cases h)⟩
      cases h;refine⟨?_,?_,?_⟩
      ·show 0≤a.1+2;omega
      ·show a.1+2≤_;omega
      ·show((List.append a.2 [_]).length:Int)≤a.1+2
       rw[Pv];omega
   show(bytesOf c.2).size≤_;rw[tS];omega
theorem eM.str{x:ByteArray}(h:eM x){a b:Option Int}:eM (nK x a b):=by
 unfold eM at h⊢
 have:=GA (b:=x) (a:=a) (c:=b)
 omega
theorem Yp: ∀n:Nat,n<256→(0≤bD .shr .u8 (n:Int) 4∧bD .shr .u8 (n:Int) 4<16)∧(0≤bD .and .u8 (n:Int) 15∧bD .and .u8 (n:Int) 15<16)∧(0≤bD .quo .u8 (n:Int) 16∧bD .quo .u8 (n:Int) 16<16)∧(0≤bD .rem .u8 (n:Int) 16∧bD .rem .u8 (n:Int) 16<16):=by decide+kernel
theorem Yq{d l:List Int}{k:Nat}(hd:d.length≤2*k)(ar:l.length≤2)(aj:k<1000001):(List.length d+List.length l≤maxLen∧(List.length d+List.length l)*1≤140737488355328)∧(List.append d l).length≤2*(k+1):=by
 refine⟨⟨by unfold maxLen;omega,by omega⟩,?_⟩
 show(d++l).length≤_
 rw[List.length_append]
 omega
theorem Yr{x:ByteArray}(h:x.size≤1000000):GB x:=by
 refine⟨⟨by omega,by omega⟩,fun i d=>d.length≤2*i,Nat.zero_le _,fun i d hi hd=>?_⟩
 have hi:i<x.size:=by rwa[Int.toNat_natCast]at hi
 obtain⟨n,hn,ad⟩:=Yj x (i:Int)
 obtain⟨_,_,gR,gw⟩:=Yp n ad
 rw[hn]
 exact⟨gR,gw,Yq hd (Nat.le_refl _) (by omega)⟩
def sA(x:ByteArray):Prop:=x.size≤30000
theorem sA.vX{x:ByteArray}(h:sA x):eM x:=by unfold sA at h;unfold eM;omega
theorem vY(a b:ByteArray):ByteArray.size (ByteArray.append a b)=a.size+b.size:=ByteArray.size_append
theorem Ys{x:ByteArray}(h:x.size≤4000000):GC x:=by
 show 0≤(x.size:Int)∧(x.size:Int)<9223372036854775808
 omega
theorem Yt(n:Int){x:ByteArray}(h:x.size≤2000000):Ca n x:=by
 unfold Ca
 simp only[vY,tS,List.length_cons,List.length_nil]
 refine⟨by omega,by omega,Ys ?_⟩
 simp only[vY,tS,List.length_cons,List.length_nil]
 omega
theorem Yu(n:Int){x:ByteArray}(h:x.size≤1000000):GD n x:=by
 intro aR
 have aR:=of_decide_eq_false aR
 have aw:IntKind.wrap .i64 ((x.size:Int)-4)=(x.size:Int)-4:=sr (by omega) (by omega)
 rw[aw]
 have ai:=GA (b:=x) (a:=none) (c:=some ((x.size:Int)-4))
 refine⟨⟨by omega,by omega⟩,Yt n (by omega),⟨by omega,?_⟩⟩
 show((nK x none (some ((x.size:Int)-4))).size:Int)≤(x.size:Int)
 omega
theorem Yv(n:Int)(x:ByteArray):(p5 n x).1.size≤x.size:=by
 unfold p5
 dsimp only
 cases decide ((x.size:Int)<4)with
 |true=>exact Nat.zero_le _
 |false=>
  simp only[cond_false];generalize hc:cq .neq _ _=c
  cases c with
  |true=>exact Nat.zero_le _
  |false=>exact(GA (b:=x) (a:=none) (c:=some (IntKind.wrap .i64 ((x.size:Int)-4))))
theorem Yw(n:Int){x:ByteArray}(h:sA x):GF n x:=by
 have aa:=Yo h.vX
 have ae:=Yv n (oL x).1
 unfold sA at h
 have ar:dG (p5 n (oL x).1).1:=by unfold dG;omega
 have ar:dG (⟨(p5 n (oL x).1).1,0,true⟩:Rd).rest:=ar
 have aC:=qX (n:=24) ar
 have sB:dG (hG ⟨(p5 n (oL x).1).1,0,true⟩ 24).1.rest:=by rw[aC];exact yu ar
 have Cb:dG (gq (hG ⟨(p5 n (oL x).1).1,0,true⟩ 24).1).1.rest:=by rw[nH sB];exact pT sB
 have Yx:dG (gq (gq (hG ⟨(p5 n (oL x).1).1,0,true⟩ 24).1).1).1.rest:=by rw[nH Cb];exact pT Cb
 exact⟨Yn (by unfold eM;omega),fun _=>⟨Yu n (by omega),fun _=>⟨sm ar,oE sB,oE Cb,oE Yx,fun _=>qZ _⟩⟩⟩
theorem Yy(n:Int){x:ByteArray}(h:sA x)(now:Int)(l:List Int):GG n x now l:=Yw n h
theorem Pw(n:Int):Cc n:=by
 refine⟨fun d=> -1≤d.2∧d.2≤7∧(d.1.size:Int)≤7-d.2,fun d=>(d.2+1).toNat,⟨by decide,by decide,by decide⟩,by decide,fun d hd aH=>?_⟩
 obtain⟨aa,ae,au⟩:=hd
 have aH:=of_decide_eq_true aH
 have aC:IntKind.wrap .u64 d.2=d.2:=by rw[pP];omega
 have bf:IntKind.wrap .u64 (8*d.2)=8*d.2:=by rw[pP];omega
 have cg:IntKind.wrap .i64 (d.2-1)=d.2-1:=sr (by omega) (by omega)
 simp only[aC,bf,cg,vY,tS,List.length_cons,List.length_nil]
 refine⟨by omega,by omega,⟨by omega,by omega,by omega⟩,by omega⟩
def GH(n:Int):ByteArray:=bytesOf [(IntKind.wrap .u8 (bD .shr .u64 n (56:Int))),(IntKind.wrap .u8 (bD .shr .u64 n (48:Int))),(IntKind.wrap .u8 (bD .shr .u64 n (40:Int))),(IntKind.wrap .u8 (bD .shr .u64 n (32:Int))),(IntKind.wrap .u8 (bD .shr .u64 n (24:Int))),(IntKind.wrap .u8 (bD .shr .u64 n (16:Int))),(IntKind.wrap .u8 (bD .shr .u64 n (8:Int))),(IntKind.wrap .u8 (bD .shr .u64 n (0:Int)))]
theorem Yz(n:Int):vZ n=GH n:=by kernel_rfl
theorem Px(n:Int):(GH n).size=8:=by
 unfold GH
 rw[tS]
 rfl
theorem YA(n:Int){x:ByteArray}(h:x.size≤2000000):Cd n x:=by
 unfold Cd
 simp only[Yz,vY,Px]
 refine⟨Pw n,by omega,Pw n,by omega,?_⟩
 show 0≤(ByteArray.size _:Int)∧(ByteArray.size _:Int)<9223372036854775808
 simp only[vY,Px]
 omega
theorem YB(n:Int){x:ByteArray}(h:x.size≤2000000):GI n x:=by
 refine⟨YA n h,?_⟩
 show x.size+(yS (Ce n x)).size≤_
 unfold yS
 rw[tS]
 simp only[List.length_cons,List.length_nil]
 omega
end Go.aM
namespace Go.aM
open Go Go.eQ
theorem YC(h:Home){l:List cu}{k:Nat}(aj:k<l.length):Cf h l (k:Int):=by
 have ai:jH l.length none (some (k:Int)):=tZ (by omega) (by omega)
 have aH:0≤(k:Int):=by omega
 have aa:(k:Int)<(l.length:Int):=by omega
 unfold Cf
 repeat' (first|exact trivial|exact aH|exact aa|exact ai|exact qZ _|intro _|refine And.intro ?_ ?_|refine Exists.intro (fun _ _=>True) (And.intro trivial ?_))
theorem YD(h:Home)(l:List cu):GJ h l:=by
 refine⟨Gb h,fun _ _=>⟨fun _ _=>True,trivial,fun i _ hi _=>⟨YC h (by rw[toNat_cast]at hi;omega),fun _=>trivial⟩⟩⟩
def Cg(l:List cu):Prop:=∀m∈l,m.mW.length≤1000000∧m.fU.length≤1000000
theorem YE{l:List cu}(ar:Cg l)(x:ByteArray):GK l x:=by
 refine⟨fun _ _=>True,trivial,fun i _ hi _=>⟨fun _=>?_,fun _=>trivial⟩⟩
 rw[toNat_cast]at hi⊢
 obtain⟨aa,ae⟩:=ar _ (BL (d:=az .cu) hi)
 refine⟨?_,F3 ae⟩
 unfold GL maxLen
 omega
theorem YF(h:Home)(x:Int):q7 h x:=Gc h x
theorem YG(h:Home)(k:dm):Ch h k:=Pf h k
theorem YH{h:Home}{d:bB}(aQ:q5 h d=0):d.bl.length≤4:=by
 unfold q5 at aQ
 dsimp only at aQ
 have:=(gu (by decide) aQ).1
 simp only[Bool.or_eq_false_iff,decide_eq_false_iff_not]at this
 omega
theorem YI(h:Home)(x:Int):(mc h x).1.bl.length≤4:=by
 rw[Gk]
 cases aQ:(gv h != 0)with
 |true=>exact Nat.zero_le _
 |false=>
  have aH:=oz aQ
  simp only[cond_false]
  cases hf:cl (fun i=>(h.bn.getD i (az .bB)).id==x) h.bn.length with
  |none=>exact Nat.zero_le _
  |some i=>
   have hi:=(ja hf).1
   have ar:=Pp aH
   exact YH (Pq (by omega) (Po aH i hi)).2
theorem YJ{h:Home}{x:Int}{i:Nat}(hi:i<(mc h x).1.bl.length):gv h=0:=by
 rw[Gk]at hi
 cases aQ:(gv h != 0)with
 |true=>rw[aQ]at hi;exact absurd hi (Nat.not_lt_zero _)
 |false=>exact oz aQ
theorem YK{c:aK}(h:oI c=false):c.attrs.length≤12:=by
 unfold oI at h
 dsimp only at h
 rw[toNat_cast,ir (p:=fun i=>decide ((List.length ((List.getD c.commands i (az .Command)).gj):Int)>12)) (F:=fun _=>true) (fun i u=>by simp only[toNat_cast])]at h
 cases hf:cl (fun i=>decide ((List.length ((List.getD c.commands i (az .Command)).gj):Int)>12)) c.commands.length with
 |none=>
  rw[hf]at h;simp only[Bool.or_eq_false_iff,decide_eq_false_iff_not]at h;omega
 |some i=>rw[hf]at h;cases h
theorem YL{h:Home}(aH:gv h=0)(x:ByteArray):((jJ .str (kA h) x).getD (az .aK)).attrs.length≤12:=by
 rw[look_eq (Gi (sy aH))]
 cases hf:cl (fun i=>decide ((h.bl.getD i (az .aK)).name=x)) h.bl.length with
 |none=>exact Nat.zero_le _
 |some i=>exact YK (vU (sy aH) i (ja hf).1).1.wide
theorem YM{α:Type}(l:List α)(v:α):(List.append l [v]).length=l.length+1:=by
 show(l++[v]).length=_
 rw[List.length_append]
 rfl
theorem YN(h:Home)(x:Int):GM h x:=by
 refine⟨Gc h x,fun k d=>d.length≤12*k,Nat.zero_le _,fun i d hi hd=>?_⟩
 rw[toNat_cast]at hi
 have aR:=YI h x
 have aH:=YJ hi
 have zis:=YL aH ((mc h x).1.bl.getD (Int.toNat (i:Int)) (az .str))
 refine⟨fun j e=>e.length≤12*i+j,by show d.length≤_;omega,fun j e ag he=>?_,fun c hc=>?_⟩
 ·rw[toNat_cast]at ag
  have he:e.length≤12*i+j:=he
  refine⟨?_,?_⟩
  ·show e.length+1≤maxLen∧(e.length+1)*40≤140737488355328
   unfold maxLen;omega
  ·show(List.append e [_]).length≤_
   rw[YM];omega
 ·rw[toNat_cast]at hc
  have hc:c.length≤12*i+_:=hc
  show c.length≤12*(i+1);omega
theorem YO(h:Home)(q:bK):v7 h q:=by
 unfold v7
 repeat' (first|exact trivial|exact YG _ _|exact YN _ _|intro _|refine And.intro ?_ ?_|refine Exists.intro (fun _ _=>True) (And.intro trivial ?_))
theorem YP(h:Home)(m:cu)(w:Int)(q:bK):Ci h m w q:=by
 unfold Ci
 repeat' (first|exact trivial|exact YF _ _|exact YO _ _|intro _|refine And.intro ?_ ?_|refine Exists.intro (fun _ _=>True) (And.intro trivial ?_))
theorem YQ(h:Home){l:List cu}(ar:Cg l)(x:ByteArray)(w:Int)(q:bK):GN h l x w q:=⟨YD h l,fun _=>⟨YE ar x,fun _=>YP _ _ _ _⟩⟩
theorem YR(l:List b8)(x:ByteArray):j3 l x=match cl (fun i=>decide ((l.getD i (az .b8)).eC=x)) l.length with
 |some i=>((i:Int),true)
 |none=>match cl (fun i=>cq .gtr (l.getD i (az .b8)).eC x) l.length with
  |some j=>((j:Int),false)
  |none=>((l.length:Int),false):=by
 unfold j3
 dsimp only
 rw[toNat_cast,ir (p:=fun i=>decide ((l.getD i (az .b8)).eC=x)) (F:=fun i=>((i:Int),true)) (fun i u=>by
  simp only[l9,toNat_cast]
  rw[decide_eq_true (show(i:Int)≥0 by omega),cond_true])]
 cases cl (fun i=>decide ((l.getD i (az .b8)).eC=x)) l.length with
 |some i=>rfl
 |none=>
  dsimp only
  rw[decide_eq_false (show ¬(-1:Int)≥0 by omega),cond_false,ir (p:=fun i=>cq .gtr (l.getD i (az .b8)).eC x) (F:=fun i=>((i:Int),false)) (fun i u=>by
   simp only[toNat_cast]
   rw[decide_eq_false (show ¬(i:Int)<0 by omega),cond_false])]
  cases cl (fun i=>cq .gtr (l.getD i (az .b8)).eC x) l.length<;>rfl
theorem YS(l:List b8)(x:ByteArray):(0≤(j3 l x).1∧(j3 l x).1≤(l.length:Int))∧((j3 l x).2=true→(j3 l x).1<(l.length:Int)):=by
 rw[YR]
 cases hf:cl (fun i=>decide ((l.getD i (az .b8)).eC=x)) l.length with
 |some i=>
  have:=(ja hf).1
  dsimp only;exact⟨⟨by omega,by omega⟩,fun _=>by omega⟩
 |none=>
  dsimp only
  cases ah:cl (fun i=>cq .gtr (l.getD i (az .b8)).eC x) l.length with
  |some j=>
   have:=(ja ah).1
   dsimp only;exact⟨⟨by omega,by omega⟩,fun h=>by cases h⟩
  |none=>
   dsimp only;exact⟨⟨by omega,Int.le_refl _⟩,fun h=>by cases h⟩
theorem YT{w:eg}(h:yT w=0): -1≤w.top∧w.top≤1099511627776:=by
 unfold yT at h
 simp only[cond_eq_ite]at h
 split at h
 ·rename_i aa
  simp only[Bool.and_eq_true,beq_iff_eq]at aa;omega
 ·split at h
  ·cases h
  ·rename_i ae
   simp only[Bool.or_eq_true,decide_eq_true_eq,not_or]at ae;omega
theorem YU(w:eg):GO w:=by
 intro _ ae v10 v11 au
 have au:=of_decide_eq_true au
 simp only[Bool.or_eq_false_iff,decide_eq_false_iff_not]at ae
 show 0≤IntKind.wrap .i64 (w.top+1)
 rw[sr (by omega) (by omega)]
 omega
theorem Py(w:eg)(n:Int):GQ w n:=by
 refine⟨YU w,fun h=>?_⟩
 simp only[Bool.or_eq_false_iff,decide_eq_false_iff_not]at h
 obtain⟨⟨⟨aa,ae⟩,au⟩,_⟩:=h
 obtain⟨t1,t2⟩:=YT (oz aa)
 refine⟨fun bA _=>?_,fun bA=>?_⟩
 ·have bA:=of_decide_eq_true bA
  show 0≤IntKind.wrap .i64 (n-w.top);rw[sr (by omega) (by omega)]
  omega
 ·have bA:=of_decide_eq_false bA
  show 0≤IntKind.wrap .i64 (w.top-n);rw[sr (by omega) (by omega)]
  omega
theorem GR{c:Config}{ms:List cu}{ws:List b8}{av:List Int}{a:ha}{now ia:Int}(hm:Cg ms)(hw:ws.length≤1000000)(aI:sA a.token):p6 c ms ws av a now ia:=by
 obtain⟨dv,en⟩:=YS ws (lA c.key a.token now av).1.eC
 unfold p6
 extract_lets bF b3 df aN dH bO
 have J: ∀z,bO z:=by
  intro z _;refine⟨fun ak=>⟨⟨dv.1,en ak⟩,⟨dv.1,en ak⟩,Py _ _,fun _=>⟨fun _=>⟨⟨dv.1,en ak⟩,dv.1,en ak⟩,fun hf=>?_⟩⟩,fun ak=>⟨Py _ _,fun _=>⟨fun hf=>?_,fun _=>⟨tZ dv.1 dv.2,⟨Int.le_refl _,?_⟩,?_⟩⟩⟩⟩
  ·rw[ak]at hf;cases hf
  ·rw[ak]at hf;cases hf
  ·show(0:Int)<1
   decide
  ·show ws.length+1≤maxLen∧(ws.length+1)*32≤140737488355328
   unfold maxLen;omega
 refine⟨⟨?_,?_⟩,Yy _ aI _ _,fun _=>⟨X1 _ _,fun _=>J _,fun _=>⟨YQ _ hm _ _ _,fun _=>J _,fun _=>J _⟩⟩,fun _=>J _⟩
 ·show 0+ws.length≤maxLen
  unfold maxLen;omega
 ·show(0+ws.length)*32≤140737488355328
  omega
end Go.aM
namespace Go.aM
open Go Go.eQ
noncomputable def yU(ws:List b8)(name:ByteArray):eg:=bif(j3 ws name).2 then(ws.getD (Int.toNat (j3 ws name).1) (az .b8)).kB else⟨-1,0⟩
noncomputable def Cj(ws:List b8)(name:ByteArray)(w:eg):List b8:=bif(j3 ws name).2 then List.set ws (Int.toNat (j3 ws name).1) ⟨(ws.getD (Int.toNat (j3 ws name).1) (az .b8)).eC,w⟩else(ws.take (Int.toNat (j3 ws name).1)++[⟨name,w⟩])++ws.drop (Int.toNat (j3 ws name).1)
noncomputable def GU(ws:List b8)(name:ByteArray)(n:Int):ByteArray × List b8 × Int:=bif !(uf (yU ws name) n).2 then(⟨#[]⟩,ws,18)else(name,Cj ws name (uf (yU ws name) n).1,0)
theorem YV(c:Config)(ms:List cu)(ws:List b8)(av:List Int)(a:ha)(now ia:Int):j4 c ms ws av a now ia=
 bif(lA c.key a.token now av).2 != 0 then(⟨#[]⟩,ws,(lA c.key a.token now av).2)else bif(ug c.home a.request) != 0 then(⟨#[]⟩,ws,ug c.home a.request)else
 bif(uh c.home ms (lA c.key a.token now av).1.eC ia a.request) != 0 then(⟨#[]⟩,ws,uh c.home ms (lA c.key a.token now av).1.eC ia a.request)else GU ws (lA c.key a.token now av).1.eC a.request.de:=by
 unfold j4 GU yU Cj
 dsimp only
 generalize lA c.key a.token now av=v
 generalize ug c.home a.request=x
 generalize uh c.home ms v.1.eC ia a.request=y
 have aw:(v.2 != 0)= !(v.2==0):=rfl
 cases aa:v.2==0 with
 |false=>
  rw[aw,aa];simp only[cond_false,cond_true,Bool.not_false,aw,aa]
 |true=>
  rw[aw,aa];simp only[cond_true,Bool.not_true,cond_false]
  cases ae:(x != 0)with
  |true=>simp only[cond_true,ae]
  |false=>
   simp only[cond_false]
   cases au:(y != 0)with
   |true=>simp only[cond_true,au]
   |false=>
    simp only[cond_false,show((0:Int) != 0)=false from rfl]
    cases (j3 ws v.1.eC).2<;>rfl
theorem YW(ws:List b8)(name:ByteArray)(w:eg):(Cj ws name w).length≤ws.length+1:=by
 unfold Cj
 cases (j3 ws name).2 with
 |true=>
  simp only[cond_true,List.length_set];omega
 |false=>
  simp only[cond_false,List.length_append,List.length_take,List.length_drop,List.length_cons,List.length_nil];omega
theorem YX(c:Config)(ms:List cu)(ws:List b8)(av:List Int)(a:ha)(now ia:Int):(j4 c ms ws av a now ia).2.1.length≤ws.length+1:=by
 rw[YV]
 generalize ((lA c.key a.token now av).2 != 0)=A
 generalize (ug c.home a.request != 0)=B
 generalize (uh c.home ms (lA c.key a.token now av).1.eC ia a.request != 0)=C
 unfold GU
 generalize (uf (yU ws (lA c.key a.token now av).1.eC) a.request.de).2=D
 have:=YW ws (lA c.key a.token now av).1.eC (uf (yU ws (lA c.key a.token now av).1.eC) a.request.de).1
 cases A<;>cases B<;>cases C<;>cases D<;>first|exact this|exact Nat.le_succ _
def v8:eN:=⟨⟨#[97,110,110]⟩,1,0,100⟩
theorem Pz:(decide ((yV (7:Int) v8).1.size≤30000)&&(decide ((yW v8).size≤2000000)&&decide ((Ck (7:Int) (yW v8)).size≤1000000)))=true:=by kernel_rfl
theorem yX{n:Int}(aa: -1000000≤n)(ae:n≤1000000):gh n:=⟨by omega,by omega⟩
theorem YY:Cl v8:=by
 have ai:eM (⟨#[97,110,110]⟩:ByteArray):=by unfold eM;decide
 have aa:=yX (n:=1) (by decide) (by decide)
 have aH:=yX (n:=0) (by decide) (by decide)
 have ae:=yX (n:=100) (by decide) (by decide)
 have b7:=vJ ai
 have a2:=l4 aa
 have a3:=l4 aH
 have a4:=l4 ae
 unfold Cl
 simp only[vY]
 show BC ⟨#[97,110,110]⟩∧pS 1∧(qV ⟨#[97,110,110]⟩).size+(j0 1).size≤_∧pS 0∧(qV ⟨#[97,110,110]⟩).size+(j0 1).size+(j0 0).size≤_∧pS 100∧(qV ⟨#[97,110,110]⟩).size+(j0 1).size+(j0 0).size+(j0 100).size≤_
 rw[WZ ai,FY aa,FY aH,FY ae]
 exact⟨WY ai,BA aa,by omega,BA aH,by omega,BA ae,by omega⟩
theorem YZ:GV (7:Int) v8:=by
 have h:=Pz
 simp only[Bool.and_eq_true,decide_eq_true_eq]at h
 exact⟨sq _,fun _=>⟨YY,YB _ h.2.1,Yr h.2.2⟩⟩
theorem GX:sA (yV (7:Int) v8).1:=by
 have h:=Pz
 simp only[Bool.and_eq_true,decide_eq_true_eq]at h
 exact h.1
def Y0:bK:=⟨1,4,⟨1,⟨#[111,110,111,102,102]⟩,⟨#[111,110]⟩⟩,⟨#[]⟩,⟨0,0,⟨#[]⟩⟩,⟨#[]⟩⟩
theorem Wi:q8=true:=by kernel_rfl
theorem GY:Cg Cm.2:=fun m hm=>by
 have hm:m∈([⟨⟨#[97,110,110]⟩,4,[],[],false⟩]:List cu):=hm
 rw[List.mem_singleton]at hm
 subst hm
 exact⟨by decide,by decide⟩
theorem FE:nD:=by
 unfold nD
 extract_lets v0 v3 v6 v10 cV dy cG iG
 have zit:v6.2.1.length≤1:=YX _ _ _ _ _ _ _
 have aJ:l2 Y0:=by
  constructor<;>first|exact yX (by decide) (by decide)|(unfold eM;decide)|(constructor<;>first|exact yX (by decide) (by decide)|(unfold eM;decide))
 refine⟨trivial,YZ,GR GY (by decide) GX,GR GY (by omega) GX,GR GY (by omega) GX,FG aJ,FF (FI aJ),fun h=>⟨Int.le_refl _,?_⟩⟩
 have h:((v3.2==0&&cq .eql v6.1 (⟨#[97,110,110]⟩:ByteArray))&&v6.2.2==0&&(List.length v6.2.1:Int)==1)=true:=h
 simp only[Bool.and_eq_true,beq_iff_eq]at h
 omega
end Go.aM
namespace Go.aM
open Go Go.eQ
theorem d64{x:Int}(h:lB ⟨.int .i64,x⟩):gh x:=by
 cases h
 rename_i h
 have h:(decide (-9223372036854775808≤x)&&decide (x≤9223372036854775807))=true:=h
 rw[Bool.and_eq_true]at h
 have aa:=of_decide_eq_true h.1
 have ae:=of_decide_eq_true h.2
 exact⟨aa,by omega⟩
theorem yY{x:ByteArray}(h:lB ⟨.str,x⟩):eM x:=by
 cases h
 rename_i h
 exact h
theorem Wo{x:bK}(h:vE ⟨.st .bK,x⟩):l2 x:=by
 have bb: ∀(i:Nat) (d:aF),(kT .bK x)[i]? =some d→lB d:=fun i d hi=>h d (List.mem_of_getElem? hi)
 exact⟨d64 (bb 0 _ rfl),d64 (bb 1 _ rfl),d64 (bb 2 _ rfl),yY (bb 3 _ rfl),yY (bb 4 _ rfl),yY (bb 5 _ rfl),⟨d64 (bb 6 _ rfl),d64 (bb 7 _ rfl),yY (bb 8 _ rfl)⟩,yY (bb 9 _ rfl)⟩
end Go.aM
namespace Go.aM
open Go Go.eQ
theorem Y1(z:Int):gh (IntKind.wrap .i64 z):=by
 unfold gh
 simp[IntKind.wrap,IntKind.bits,IntKind.signed]
 omega
theorem Y2(r:Rd)(n:Int)(hn:0≤n):(fI r n).1≤n:=by
 unfold fI
 cases dq:((dJ ((cX r).2)) != 0)with
 |true=>exact hn
 |false=>
  simp only[cond_false]
  cases hy:decide ((cX r).1<0)with
  |true=>exact hn
  |false=>
   simp only[cond_false]
   cases kO:decide ((cX r).1>(if 0>n then 0 else n))with
   |true=>exact hn
   |false=>
    have kO:=of_decide_eq_false kO
    rw[if_neg (by omega)]at kO
    simp only[cond_false];omega
theorem Y3(r:Rd)(n:Int)(hn:0≤n):((gX r n).1.size:Int)≤n:=by
 have h:=Y2 r n hn
 have aH:=OM r n
 unfold gX
 simp only[cond_eq_ite]
 repeat' split
 ·exact hn
 ·exact hn
 ·show((ByteArray.size (ByteArray.extract _ 0 _):Nat):Int)≤n
  rw[ByteArray.size_extract];omega
theorem Cn{x:ByteArray}(h:valid x=true):x.size≤24:=by
 unfold valid at h
 cases hc:((decide ((ByteArray.size x:Int)<1))||(decide ((ByteArray.size x:Int)>24)))with
 |true=>rw[hc]at h;cases h
 |false=>
  simp only[Bool.or_eq_false_iff,decide_eq_false_iff_not]at hc;omega
theorem ui(r:Rd):gh (cX r).1:=by
 unfold cX
 simp only[cond_eq_ite]
 repeat' split
 ·exact l8
 ·exact l8
 ·exact Y1 _
theorem yZ(r:Rd)(n:Int)(h:0≤n)(hn:n≤20000):eM (gX r n).1:=by
 have:=Y3 r n h
 unfold eM
 omega
theorem Y4(r:Rd):BH (oA r).1:=by
 have e:eM (⟨#[]⟩:ByteArray):=Nat.zero_le _
 have aa:BH (tP r):=by
  unfold tP;simp only[cond_eq_ite]
  repeat' split
  ·exact⟨ui _,ui _,e⟩
  ·exact⟨ui _,l8,yZ _ _ (by decide) (by decide)⟩
  ·exact⟨ui _,l8,e⟩
 unfold oA
 simp only[cond_eq_ite]
 split
 ·exact⟨l8,l8,e⟩
 ·exact aa
theorem Oe(s:ByteArray):l2 (pM s).1:=by
 have e:eM (⟨#[]⟩:ByteArray):=Nat.zero_le _
 have aQ:l2 BG:=⟨l8,l8,l8,e,e,e,⟨l8,l8,e⟩,e⟩
 have mQ:eM (lz s).1:=by
  unfold lz;exact yZ _ _ (by decide) (by decide)
 have hd:l2 (gi s):=by
  unfold gi;generalize lz s=d8 at mQ⊢;exact⟨ui _,ui _,ui _,yZ _ _ (by decide) (by decide),yZ _ _ (by decide) (by decide),yZ _ _ (by decide) (by decide),Y4 _,mQ⟩
 unfold pM
 repeat' split
 all_goals first|exact aQ|exact hd
theorem PA(t:ByteArray):mN (fO t)=0↔t.size=0:=by
 unfold mN Bs
 rw[mP]
 show(bif decide ((t.size:Int)>0)then(23:Int)else 0)=0↔_
 by_cases h:(t.size:Int)>0
 ·rw[decide_eq_true h]
  exact⟨(fun h=>by cases h),fun aH=>by omega⟩
 ·rw[decide_eq_false h]
  exact⟨fun _=>by omega,fun _=>rfl⟩
theorem Y5{r:Rd}(h:mN r=0):dJ r=0:=by
 unfold mN at h
 cases hd:decide (Bs r>0)with
 |true=>rw[hd]at h;cases h
 |false=>rw[hd]at h;exact h
theorem wa:tT (fun r=>gX r 24) fj (fun s=>(s.size:Int)≤24):=FU (by decide) (by decide)
theorem PB:tT (fun r=>gX r 20000) fj (fun s=>(s.size:Int)≤20000):=FU (by decide) (by decide)
noncomputable def oM(q:bK)(t:ByteArray):ByteArray:=gP q.kind++(gP q.de++(gP q.key.dev++(fj q.key.cU++(fj q.key.attr++(fj q.name++(lr q.value++(fj q.text++t)))))))
theorem Y6(a:ByteArray):a++(⟨#[]⟩:ByteArray)=a:=ByteArray.append_empty
theorem PC{q:bK}(h:l2 q)(aw:iY q.value=0):ky q=oM q ⟨#[]⟩:=by
 unfold ky oM
 dsimp only
 rw[tX h.k,tX h.n,tX h.d,yr h.c,yr h.a,yr h.m,yr h.t,Y6]
 have e:mT ⟨q.value.kind,q.value.n,q.value.s⟩=lr q.value:=Xd aw
 rw[e]
 show((((((((gP q.kind++gP q.de)++gP q.key.dev)++fj q.key.cU)++fj q.key.attr)++fj q.name)++lr q.value)++fj q.text):ByteArray)=_
 simp only[ByteArray.append_assoc]
structure PD (q:bK):Prop where
 ok:l2 q
 k:1≤q.kind∧q.kind≤7
 n:0≤q.de∧q.de≤1099511627776
 c:q.key.cU.size≤24
 a:q.key.attr.size≤24
 m:q.name.size≤24
 v:iY q.value=0
 t:q.text.size≤20000
theorem Wm{q:bK}(h:PD q):pM (ky q)=(q,0):=by
 rw[PC h.ok h.v]
 have d1:j1 (oM q ⟨#[]⟩)=(q.kind,fO (gP q.de++(gP q.key.dev++(fj q.key.cU++(fj q.key.attr++(fj q.name++(lr q.value++(fj q.text++⟨#[]⟩)))))))):=oC.enc _ _ h.ok.k
 have d2:jF (oM q ⟨#[]⟩)=(q.de,fO (gP q.key.dev++(fj q.key.cU++(fj q.key.attr++(fj q.name++(lr q.value++(fj q.text++⟨#[]⟩))))))):=by
  unfold jF;rw[d1];exact oC.enc _ _ h.ok.n
 have d3:lu (oM q ⟨#[]⟩)=(q.key.dev,fO (fj q.key.cU++(fj q.key.attr++(fj q.name++(lr q.value++(fj q.text++⟨#[]⟩)))))):=by
  unfold lu;rw[d2];exact oC.enc _ _ h.ok.d
 have d4:lv (oM q ⟨#[]⟩)=(q.key.cU,fO (fj q.key.attr++(fj q.name++(lr q.value++(fj q.text++⟨#[]⟩))))):=by
  unfold lv;rw[d3];exact wa.enc _ _ (by have:=h.c;omega)
 have d5:lx (oM q ⟨#[]⟩)=(q.key.attr,fO (fj q.name++(lr q.value++(fj q.text++⟨#[]⟩)))):=by
  unfold lx;rw[d4];exact wa.enc _ _ (by have:=h.a;omega)
 have d6:ly (oM q ⟨#[]⟩)=(q.name,fO (lr q.value++(fj q.text++⟨#[]⟩))):=by
  unfold ly;rw[d5];exact wa.enc _ _ (by have:=h.m;omega)
 have d7:mR (oM q ⟨#[]⟩)=(q.value,fO (fj q.text++⟨#[]⟩)):=by
  unfold mR;rw[d6];exact OD.enc _ _ (by rw[←vK];exact h.v)
 have d8:lz (oM q ⟨#[]⟩)=(q.text,fO ⟨#[]⟩):=by
  unfold lz;rw[d7];exact PB.enc _ _ (by have:=h.t;omega)
 have aJ:gi (oM q ⟨#[]⟩)=q:=by
  unfold gi;rw[d1,d2,d3,d4,d5,d6,d7,d8]
 unfold pM
 rw[aJ,d8]
 have he:mN (fO ⟨#[]⟩)=0:=(PA _).2 rfl
 have aj:=h.k
 have hn:=h.n
 rw[if_neg (by rw[he];simp),if_neg (by omega),if_neg (by omega)]
theorem uj{a b:ByteArray}(h:fO a=fO b):a=b:=congrArg Rd.rest h
theorem Wk{s:ByteArray}(h:(pM s).2=0):ky (pM s).1=s:=by
 have aJ:=Oe s
 unfold pM at h aJ⊢
 by_cases aa:mN (lz s).2≠0
 ·rw[if_pos aa]at h
  dsimp only at h;exact absurd h aa
 rw[if_neg aa]at h aJ⊢
 by_cases ae:(gi s).kind<1∨(gi s).kind>7
 ·rw[if_pos ae]at h
  cases h
 rw[if_neg ae]at h aJ⊢
 by_cases au:(gi s).de<0∨(gi s).de>1099511627776
 ·rw[if_pos au]at h
  cases h
 rw[if_neg au]at aJ⊢
 have aa:mN (lz s).2=0:=Decidable.not_not.1 aa
 obtain⟨PE,t8,qT,_,Co⟩:=PB.dec (mR s).2 (Y5 aa)
 have Co:lz s=(PE,fO t8):=Co
 obtain⟨PF,t7,pU,Y7,Cp⟩:=OD.dec (ly s).2 (by show dJ (mR s).2=0;rw[qT];exact mP _)
 have Cp:mR s=(PF,fO t7):=Cp
 obtain⟨PG,t6,mS,_,Cq⟩:=wa.dec (lx s).2 (by show dJ (ly s).2=0;rw[pU];exact mP _)
 have Cq:ly s=(PG,fO t6):=Cq
 obtain⟨a5,t5,kz,_,Cr⟩:=wa.dec (lv s).2 (by show dJ (lx s).2=0;rw[mS];exact mP _)
 have Cr:lx s=(a5,fO t5):=Cr
 obtain⟨a4,t4,ek,_,wb⟩:=wa.dec (lu s).2 (by show dJ (lv s).2=0;rw[kz];exact mP _)
 have wb:lv s=(a4,fO t4):=wb
 obtain⟨a3,t3,cg,_,wc⟩:=oC.dec (jF s).2 (by show dJ (lu s).2=0;rw[ek];exact mP _)
 have wc:lu s=(a3,fO t3):=wc
 obtain⟨a2,t2,bf,_,en⟩:=oC.dec (j1 s).2 (by show dJ (jF s).2=0;rw[cg];exact mP _)
 have en:jF s=(a2,fO t2):=en
 obtain⟨b7,t1,aC,_,dv⟩:=oC.dec (Oh s) (by show dJ (j1 s).2=0;rw[bf];exact mP _)
 have dv:j1 s=(b7,fO t1):=dv
 rw[Co]at aa
 have aH:t8=⟨#[]⟩:=yl (List.eq_nil_of_length_eq_zero ((PA t8).1 aa))
 rw[Cp]at qT
 rw[Cq]at pU
 rw[Cr]at mS
 rw[wb]at kz
 rw[wc]at ek
 rw[en]at cg
 rw[dv]at bf
 have f8:=uj qT
 have f7:=uj pU
 have f6:=uj mS
 have f5:=uj kz
 have f4:=uj ek
 have f3:=uj cg
 have f2:=uj bf
 have f1:s=gP b7++t1:=congrArg Rd.rest aC
 have hd:gi s=⟨b7,a2,⟨a3,a4,a5⟩,PG,PF,PE⟩:=by
  unfold gi;rw[dv,en,wc,wb,Cr,Cq,Cp,Co]
 rw[hd]at aJ⊢
 rw[PC aJ (by rw[vK];exact Y7),f1,f2,f3,f4,f5,f6,f7,f8,aH]
 rfl
end Go.aM
namespace Go.aM
open Go Go.eQ
theorem Y8{c:aK}(h:kQ c=0):valid c.name=true:=by
 unfold kQ at h
 dsimp only at h
 have:=(gu (by decide) h).1
 rw[so]at this
 simpa using this
theorem Y9{a:Attr}(h:j2 a=0):valid a.name=true:=by
 unfold j2 at h
 dsimp only at h
 have:=(gu (by decide) h).1
 rw[so]at this
 simpa using this
theorem Za{c:aK}{k:Nat}(h:oH c (k:Int)=0):valid (c.commands.getD k (az .Command)).name=true:=by
 unfold oH at h
 simp only[toNat_cast]at h
 have:=(gu (by decide) h).1
 rw[so]at this
 simpa using this
theorem all_zero{l:List aK}(h:ma l=0): ∀i,i<l.length→kQ (l.getD i (az .aK))=0:=by
 unfold ma at h
 dsimp only at h
 obtain⟨_,h⟩:=gu (by decide) h
 simp only[toNat_cast]at h
 obtain⟨aY,_⟩:=(sv (e:=fun i=>bif(kQ (l.getD i (az .aK)) != 0)then kQ (l.getD i (az .aK))else bif(cl (fun j=>decide ((l.getD j (az .aK)).name=(l.getD i (az .aK)).name)) i).isSome then 9 else 0) fun i hi=>by
  rw[q2,List.length_take,Nat.min_eq_left (Nat.le_of_lt hi),yK (fun a:aK=>a.name)]
  cases aQ:(kQ (l.getD i (az .aK)) != 0)with
  |true=>simp only[cond_true,aQ]
  |false=>
   simp only[cond_false]
   cases (cl (fun j=>decide ((l.getD j (az .aK)).name=(l.getD i (az .aK)).name)) i).isSome<;>rfl).1 h
 exact fun i hi=>(p0 (aY i hi)).1
theorem PH{h:Home}{x:Int}{n:ByteArray}(ae:(mV h x n).2=true):n.size≤24∧∃j,j<h.bl.length∧(mV h x n).1=h.bl.getD j (az .aK)∧gv h=0:=by
 rw[Yh]at ae⊢
 cases aQ:(gv h != 0)with
 |true=>rw[aQ]at ae;cases ae
 |false=>
  have aH:=oz aQ
  rw[aQ]at ae;simp only[cond_false]at ae⊢
  cases hf:cl (fun i=>(h.bn.getD i (az .bB)).id==x) h.bn.length with
  |none=>rw[hf]at ae;cases ae
  |some i=>
   rw[hf]at ae;obtain⟨aa,_,_⟩:=ja hf;dsimp only at ae⊢
   cases hm:decide (q0 (h.bn.getD i (az .bB)).bl n<0)with
   |true=>rw[hm]at ae;cases ae
   |false=>
    obtain⟨j,ag⟩:=Ps aH aa hm;obtain⟨aN,bO,_⟩:=ja ag
    have hn:=of_decide_eq_true bO
    have aw:=Y8 (all_zero (sy aH) j aN)
    rw[hn]at aw;refine⟨Cn aw,j,aN,?_,aH⟩
    rw[yO,ag];simp only[cond_false,toNat_cast]
theorem PI{h:Home}{k:dm}(ae:(y0 h k).2=true):k.cU.size≤24∧k.attr.size≤24:=by
 unfold y0 at ae
 dsimp only at ae
 cases ak:(mV h k.dev k.cU).2 with
 |false=>rw[ak]at ae;cases ae
 |true=>
  rw[ak]at ae;obtain⟨aa,j,ag,he,aH⟩:=PH ak;refine⟨aa,?_⟩
  have ae:(su (mV h k.dev k.cU).1 k.attr).2=true:=ae
  rw[he,O7,O6]at ae
  cases hf:cl (fun i=>decide (((h.bl.getD j (az .aK)).attrs.getD i (az .Attr)).name=k.attr)) (h.bl.getD j (az .aK)).attrs.length with
  |none=>rw[hf]at ae;cases ae
  |some i=>
   obtain⟨i1,i2,_⟩:=ja hf
   have:=Y9 ((vU (sy aH) j ag).1.attrs i i1).1
   rw[of_decide_eq_true i2]at this;exact Cn this
theorem PJ{a:Attr}{v:cD}(h:q4 a v=0):iY v=0:=by
 unfold q4 at h
 have:=(p0 (p0 h).2).1
 rw[ON]at this
 exact this
theorem Wl{h:Home}{q:bK}(aJ:l2 q)(aH:tN h q=0):PD q:=by
 unfold tN at aH
 dsimp only at aH
 obtain⟨_,aH⟩:=p0 aH
 obtain⟨aj,aH⟩:=gu (by decide) aH
 obtain⟨hn,aH⟩:=gu (by decide) aH
 obtain⟨ai,aH⟩:=gu (by decide) aH
 simp only[Bool.or_eq_false_iff,decide_eq_false_iff_not]at aj hn
 have sC:1≤q.kind∧q.kind≤7:=by omega
 have p7:0≤q.de∧q.de≤1099511627776:=by omega
 have ai:sD q=true:=by simpa using ai
 have z0:iY ⟨0,0,⟨#[]⟩⟩=0:=by kernel_rfl
 have aQ: ∀{x:ByteArray},x=⟨#[]⟩→x.size≤24:=fun hx=>by rw[hx];exact Nat.zero_le _
 have aI: ∀{x:ByteArray},x=⟨#[]⟩→x.size≤20000:=fun hx=>by rw[hx];exact Nat.zero_le _
 obtain⟨kind,de,⟨dev,eJ,at_⟩,name,⟨PK,PL,vs⟩,text⟩:=q
 have q9:kind=1∨kind=2∨kind=3∨kind=4∨kind=5∨kind=6∨kind=7:=by
  have aa:1≤kind∧kind≤7:=sC
  omega
 rcases q9 with rfl|rfl|rfl|rfl|rfl|rfl|rfl
 ·simp[sD,l9,yD,oy]at ai
  obtain⟨⟨aa,ae,au,aR⟩,bA⟩:=ai;subst ae au aR
  have aH:we h _=0:=aH
  unfold we at aH;obtain⟨f1,aH⟩:=gu (by decide) aH
  obtain⟨aU,da⟩:=PI (by simpa using f1)
  exact⟨aJ,sC,p7,aU,da,aQ aa,z0,aI bA⟩
 ·simp[sD,l9,yD,oy]at ai
  have aH:we h _=0:=aH
  unfold we at aH;obtain⟨f1,aH⟩:=gu (by decide) aH
  obtain⟨aU,da⟩:=PI (by simpa using f1)
  have aH:(bif !_ then(24:Int)else q4 _ _)=0:=aH
  exact⟨aJ,sC,p7,aU,da,aQ ai.1,PJ (gu (by decide) aH).2,aI ai.2⟩
 ·simp[sD,l9,yD,oy]at ai
  have aH:Cs h _=0:=aH
  unfold Cs at aH;obtain⟨f1,aH⟩:=gu (by decide) aH
  obtain⟨f2,aH⟩:=gu (by decide) aH
  obtain⟨aU,j,ag,he,bb⟩:=PH (by simpa using f1)
  have hm:name.size≤24:=by
   have f2:(ue (mV h dev eJ).1 name).2=true:=by simpa using f2
   rw[he,Yi]at f2;unfold vW at f2;dsimp only at f2;rw[toNat_cast,ir (p:=fun i=>decide (((h.bl.getD j (az .aK)).commands.getD i (az .Command)).name=name)) (F:=fun i=>((h.bl.getD j (az .aK)).commands.getD i (az .Command),true)) (fun i u=>by simp only[l9,toNat_cast]<;>rfl)]at f2
   cases hf:cl (fun i=>decide (((h.bl.getD j (az .aK)).commands.getD i (az .Command)).name=name)) (h.bl.getD j (az .aK)).commands.length with
   |none=>rw[hf]at f2;cases f2
   |some i=>
    obtain⟨i1,i2,_⟩:=ja hf
    have:=Za ((vU (sy bb) j ag).1.Pb i i1)
    rw[of_decide_eq_true i2]at this;exact Cn this
  have aw:iY ⟨PK,PL,vs⟩=0:=by
   cases ak:((ue (mV h dev eJ).1 name).1.param.kind != 0)with
   |true=>
    rw[ak]at aH;exact PJ aH
   |false=>
    rw[ak]at aH
    have aH:(bif(!(bif PK==0 then bif PL==0 then dw vs (⟨#[]⟩:ByteArray)else false else false))then(11:Int)else 0)=0:=aH
    have:=(gu (by decide) aH).1
    simp[oy]at this;obtain⟨aa,ae,au⟩:=this;subst aa ae au;exact z0
  exact⟨aJ,sC,p7,aU,aQ ai.1,hm,aw,aI ai.2⟩
 all_goals
  simp[sD,l9,yD,oy]at ai
  try
   have aH:(bif !(jG name)then(10:Int)else 0)=0:=aH
   have hm:=(gu (by decide) aH).1
   rw[vO]at hm
   have hm:=Cn (x:=name) (by simpa using hm)
 ·obtain⟨⟨aa,_,ae,_⟩,⟨aR,bA,cB⟩,dM⟩:=ai
  subst aR bA cB;exact⟨aJ,sC,p7,aQ ae,aQ aa,hm,z0,aI dM⟩
 ·obtain⟨⟨aa,_,ae,_⟩,⟨aR,bA,cB⟩,dM⟩:=ai
  subst aR bA cB;exact⟨aJ,sC,p7,aQ ae,aQ aa,hm,z0,aI dM⟩
 ·obtain⟨⟨aa,_,ae,_⟩,⟨aR,bA,cB⟩,dM⟩:=ai
  subst aR bA cB;exact⟨aJ,sC,p7,aQ ae,aQ aa,hm,z0,aI dM⟩
 ·obtain⟨⟨aa,_,ae,_⟩,au,aR,bA,cB⟩:=ai
  subst aR bA cB
  have aH:(bif decide ((ByteArray.size text:Int)>20000)then(3:Int)else 0)=0:=aH
  have dM:=of_decide_eq_false (gu (by decide) aH).1
  exact⟨aJ,sC,p7,aQ ae,aQ aa,aQ au,z0,by show text.size≤20000;omega⟩
end Go.aM
