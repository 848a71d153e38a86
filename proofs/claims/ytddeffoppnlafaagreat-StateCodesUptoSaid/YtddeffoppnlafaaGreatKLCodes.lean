/- The law StateCodes in plain Lean. Conditions: none. -/
import Derived.Test.YtddeffoppnlafaaGreatKYi
import Derived.Test.YtddeffoppnlafaaGreatKYv
import Derived.Test.YtddeffoppnlafaaGreatKTEr
import Derived.Test.YtddeffoppnlafaaGreatKPn
namespace Go.aK
open Go Go.aK Go.fb
theorem lp{B:Nat}{x:Int}(h:gM B ⟨.int .i64,x⟩):eO x:=by
 cases h
 rename_i h
 have h:(decide (-9223372036854775808≤x)&&decide (x≤9223372036854775807))=true:=h
 rw[Bool.and_eq_true]at h
 have ab:=of_decide_eq_true h.1
 have ae:=of_decide_eq_true h.2
 exact⟨ab,by omega⟩
theorem rE{x:ByteArray}(h:gM 1048576 ⟨.str,x⟩):iv x:=by
 cases h with
 |str s ao=>exact ao
theorem qi{c:bX}{B:Nat}{l:List (hg c)}(h:gM B ⟨.li c,l⟩):l.length≤B∧∀x∈l,∀d∈hh c x,gM B d:=by
 cases h with
 |li _ _ ab ae=>exact⟨ab,ae⟩
theorem Fe{b:Nat→Unit→Step Bool Unit}{c:Nat→Bool}{K:Unit→Bool}(ag: ∀i,b i ()=bif c i then .ret false else .bM ()): ∀(n k:Nat),Sum.elim (fun r=>r) K (bJ b k n ())=true→(∀i,k≤i→i<k+n→c i=false)∧K ()=true
 |0,k,h=>⟨fun i ab ae=>by omega,h⟩
 |n+1,k,h=>by
  simp only[bJ,ag k]at h
  cases hc:c k with
  |true=>rw[hc]at h;cases h
  |false=>
   rw[hc]at h;obtain⟨ab,ae⟩:=Fe ag n (k+1) h;refine⟨fun i g1 g2=>?_,ae⟩
   rcases Nat.lt_or_ge k i with g|g
   ·exact ab i (by omega) (by omega)
   ·have:i=k:=by omega
    rw[this];exact hc
theorem J4{α:Type}{l:List α}{x d:α}(h:x∈l): ∃i,i<l.length∧List.getD l i d=x:=by
 obtain⟨i,hi,rfl⟩:=List.mem_iff_getElem.1 h
 exact⟨i,hi,by rw[List.getD_eq_getElem?_getD,List.getElem?_eq_getElem hi];rfl⟩
def Sc(x:bG):Prop:=x.fY.length≤24∧x.ju.length≤24∧x.members.length≤24∧x.fg.length≤24∧x.eB.length≤24∧x.j5.length≤24∧(∀s∈x.fY,s.reported.length≤40∧s.kt.length≤40)∧(∀s∈x.members,s.h8.length≤24∧s.k0.length≤24)∧∀s∈x.eB,s.items.length≤40
theorem Sd{x:bG}(h:wm x=true):Sc x:=by
 unfold wm at h
 dsimp only at h
 cases hc:((((((((decide ((x.fY.length:Int)>24))||(decide ((List.length x.ju:Int)>24)))||(decide ((x.members.length:Int)>24)))||(decide ((List.length x.fg:Int)>24)))||(decide ((x.eB.length:Int)>24)))||(decide ((List.length x.j5:Int)>24)))||(decide ((ByteArray.size x.source:Int)>3000)))||(decide ((ByteArray.size x.mode:Int)>3000)))with
 |true=>rw[hc]at h;cases h
 |false=>
  rw[hc]at h;simp only[Bool.or_eq_false_iff,decide_eq_false_iff_not]at hc;obtain⟨⟨⟨⟨⟨⟨⟨aB,bU⟩,b7⟩,c2⟩,dT⟩,fo⟩,fh⟩,om⟩:=hc;simp only[cond_false,Int.toNat_natCast]at h
  obtain⟨ab,h⟩:=Fe (c:=fun i=>!(oo (List.getD x.fY i (bj .bS)).reported)|| !(oo (List.getD x.fY i (bj .bS)).kt)) (fun i=>by
   cases oo (List.getD x.fY i (bj .bS)).reported<;>cases oo (List.getD x.fY i (bj .bS)).kt<;>rfl) _ _ h
  obtain⟨ae,h⟩:=Fe (c:=fun i=>(decide ((List.length ((List.getD x.members i (bj .bC)).h8):Int)>24))||(decide ((List.length ((List.getD x.members i (bj .bC)).k0):Int)>24))) (fun i=>rfl) _ _ h
  obtain⟨aw,_⟩:=Fe (c:=fun i=>!(oo (List.getD x.eB i (bj .ch)).items)) (fun i=>rfl) _ _ h;refine⟨by omega,by omega,by omega,by omega,by omega,by omega,fun s ao=>?_,fun s ao=>?_,fun s ao=>?_⟩
  ·obtain⟨i,hi,rfl⟩:=J4 (d:=bj .bS) ao
   have:=ab i (Nat.zero_le _) (by omega)
   simp only[oo,Bool.or_eq_false_iff,Bool.not_eq_false',decide_eq_true_eq]at this;omega
  ·obtain⟨i,hi,rfl⟩:=J4 (d:=bj .bC) ao
   have:=ae i (Nat.zero_le _) (by omega)
   simp only[Bool.or_eq_false_iff,decide_eq_false_iff_not]at this;omega
  ·obtain⟨i,hi,rfl⟩:=J4 (d:=bj .ch) ao
   have:=aw i (Nat.zero_le _) (by omega)
   simp only[oo,Bool.not_eq_false',decide_eq_true_eq]at this;omega
abbrev j6:Nat:=1048576
theorem za8{x:bk}(h: ∀d∈hh .bk x,gM j6 d):qj x:=by
 have aV: ∀(i:Nat) (d:aL),(hh .bk x)[i]? =some d→gM j6 d:=fun i d hi=>h d (List.mem_of_getElem? hi)
 exact⟨lp (aV 0 _ rfl),rE (aV 1 _ rfl),rE (aV 2 _ rfl),⟨lp (aV 3 _ rfl),lp (aV 4 _ rfl),rE (aV 5 _ rfl)⟩,lp (aV 6 _ rfl)⟩
theorem J5{l:List bk}(h:gM j6 ⟨.li .bk,l⟩)(av:l.length≤40):jK qj l:=⟨av,fun x hx=>za8 ((qi h).2 x hx)⟩
theorem za9{x:bS}(h: ∀d∈hh .bS x,gM j6 d)(ab:x.reported.length≤40)(ae:x.kt.length≤40):Bm x:=by
 have aV: ∀(i:Nat) (d:aL),(hh .bS x)[i]? =some d→gM j6 d:=fun i d hi=>h d (List.mem_of_getElem? hi)
 exact⟨⟨lp (aV 0 _ rfl),lp (aV 1 _ rfl),lp (aV 2 _ rfl)⟩,⟨J5 (aV 3 _ rfl) ab,J5 (aV 4 _ rfl) ae⟩,lp (aV 5 _ rfl),lp (aV 6 _ rfl),lp (aV 7 _ rfl),lp (aV 8 _ rfl)⟩
theorem zba{x:cG}(h: ∀d∈hh .cG x,gM j6 d):wo x:=by
 have aV: ∀(i:Nat) (d:aL),(hh .cG x)[i]? =some d→gM j6 d:=fun i d hi=>h d (List.mem_of_getElem? hi)
 exact⟨lp (aV 0 _ rfl),lp (aV 1 _ rfl)⟩
theorem Se{x:ByteArray}(h: ∀d∈hh .str x,gM j6 d):iv x:=rE (h _ (List.mem_of_getElem? (i:=0) rfl))
theorem zbb{x:Int}(h: ∀d∈hh .i64 x,gM j6 d):eO x:=lp (h _ (List.mem_of_getElem? (i:=0) rfl))
theorem zbc{x:bC}(h: ∀d∈hh .bC x,gM j6 d)(ab:x.h8.length≤40)(ae:x.k0.length≤40):Bn x:=by
 have aV: ∀(i:Nat) (d:aL),(hh .bC x)[i]? =some d→gM j6 d:=fun i d hi=>h d (List.mem_of_getElem? hi)
 exact⟨rE (aV 0 _ rfl),lp (aV 1 _ rfl),⟨ab,fun y aA=>zba ((qi (aV 2 _ rfl)).2 y aA)⟩,ae,fun y aA=>Se ((qi (aV 3 _ rfl)).2 y aA)⟩
theorem zbd{x:cm}(h: ∀d∈hh .cm x,gM j6 d):yn x:=by
 have aV: ∀(i:Nat) (d:aL),(hh .cm x)[i]? =some d→gM j6 d:=fun i d hi=>h d (List.mem_of_getElem? hi)
 exact⟨rE (aV 0 _ rfl),lp (aV 1 _ rfl)⟩
theorem zbe{x:ch}(h: ∀d∈hh .ch x,gM j6 d)(ab:x.items.length≤40):yo x:=by
 have aV: ∀(i:Nat) (d:aL),(hh .ch x)[i]? =some d→gM j6 d:=fun i d hi=>h d (List.mem_of_getElem? hi)
 exact⟨rE (aV 0 _ rfl),J5 (aV 1 _ rfl) ab⟩
theorem Sf{x:bG}(h:uG j6 ⟨.st .bG,x⟩)(ao:Sc x):qk x:=by
 have aV: ∀(i:Nat) (d:aL),(hh .bG x)[i]? =some d→gM j6 d:=fun i d hi=>h d (List.mem_of_getElem? hi)
 obtain⟨s1,s2,iQ,jf,jg,ku,nF,Sg,zbf⟩:=ao
 exact⟨⟨lp (aV 0 _ rfl),rE (aV 1 _ rfl),rE (aV 6 _ rfl),lp (aV 8 _ rfl)⟩,⟨by omega,fun y aA=>za9 ((qi (aV 2 _ rfl)).2 y aA) (nF y aA).1 (nF y aA).2⟩,⟨by omega,fun y aA=>Se ((qi (aV 3 _ rfl)).2 y aA)⟩,
  ⟨by omega,fun y aA=>zbc ((qi (aV 4 _ rfl)).2 y aA) (by have:=(Sg y aA).1;omega) (by have:=(Sg y aA).2;omega)⟩,⟨by omega,fun y aA=>zbd ((qi (aV 5 _ rfl)).2 y aA)⟩,
  ⟨by omega,fun y aA=>zbe ((qi (aV 7 _ rfl)).2 y aA) (zbf y aA)⟩,by omega,fun y aA=>zbb ((qi (aV 9 _ rfl)).2 y aA)⟩
theorem zbg{x:bG}(ab:x.members.length≤1048576)(ae:x.eB.length≤1048576):sQ x:=by
 unfold sQ
 intro v1 v6 v12 cV _ aW
 refine⟨fun _ _=>True,trivial,fun i _ _ _=>⟨fun _ _=>trivial,fun _ _=>trivial⟩,fun _ _=>?_⟩
 unfold aW
 refine⟨⟨Int.natCast_nonneg _,by show(x.members.length:Int)<_;omega⟩,?_⟩
 intro fm
 refine⟨fun _ _=>True,trivial,fun _ _ _ _ _=>trivial,fun _ _=>?_⟩
 unfold fm
 exact⟨Int.natCast_nonneg _,by show(x.eB.length:Int)<_;omega⟩
theorem zbh{x:bG}{b:ByteArray}(h:uG j6 ⟨.st .bG,x⟩)(ag:iv b):yp x b∧Ff x b=true:=by
 have aV: ∀(i:Nat) (d:aL),(hh .bG x)[i]? =some d→gM j6 d:=fun i d hi=>h d (List.mem_of_getElem? hi)
 have zbi:sQ x:=zbg (qi (aV 4 _ rfl)).1 (qi (aV 7 _ rfl)).1
 have av:cD b:=by unfold iv at ag;unfold cD;omega
 have hd:=zbj av
 obtain⟨g1,g2⟩:=zbk av
 refine⟨⟨zbi,fun _=>trivial,fun hc=>?_⟩,?_⟩
 ·simp only[Bool.or_eq_false_iff,Bool.not_eq_false']at hc
  have ao:=Sf h (Sd hc.1)
  refine⟨zbl av,zbm av,zbn ao,zbo ao,fun _=>⟨?_,fun _=>trivial⟩,fun _ _=>trivial⟩
  rw[←hd];exact zbp g1 g2
 ·unfold Ff
  cases hc:((!(wm x))||(decide ((ByteArray.size b:Int)>5000)))with
  |true=>rfl
  |false=>
   simp only[Bool.or_eq_false_iff,Bool.not_eq_false']at hc
   have ao:=Sf h (Sd hc.1)
   simp only[cond_false,←hd,zbq ao,Sh,cond_true,zbr,beq_self_eq_true,Bool.and_self];rfl
theorem zbs: ∀x,(∀d∈eK rF.ps x,uG 1048576 d)→ql rF.pre x∧m0 rF.rs (rF.m x)=wq true:=by
 intro x h
 have ab:uG j6 ⟨.st .bG,x.1⟩:=h _ (List.mem_of_getElem? (i:=0) rfl)
 have ae:gM j6 ⟨.str,x.2⟩:=h _ (List.mem_of_getElem? (i:=1) rfl)
 obtain⟨ct,a2⟩:=zbh ab (rE ae)
 refine⟨ct,?_⟩
 show wq (Ff x.1 x.2)=wq true
 rw[a2]
end Go.aK
