/- Text and Read: what was written is read back. Conditions: none. -/
import Derived.Test.YtmkpmgfieagphaaDoorKVc
namespace Go.aG
open Go Go.du
theorem jX{c:UInt8}{a b:ByteArray}(aI:eK c a)(ad:eK c b):eK c (ByteArray.append a b):=fun u hu=>by
 rw[jz,List.mem_append]at hu
 rcases hu with h|h
 ·exact aI u h
 ·exact ad u h
theorem XZ(K:Int):eK 10 (h0 K):=by
 have: ∀j:Nat,∀u∈(List.getD vu j (ed .str)).data.toList,u≠10:=by
  intro j
  rcases Nat.lt_or_ge j 16 with h|h
  ·revert j
   decide+kernel
  ·rw[List.getD_eq_getElem?_getD,List.getElem?_eq_none (by exact h)]
   intro u hu;cases hu
 exact this _
theorem u9(n:Int):eK 10 (m21 n):=by
 have hd: ∀d:Nat,d<10→UInt8.ofNat (48+d)≠10:=by decide
 have: ∀b∈(fr n).data.toList,b≠10:=by
  unfold fr
  cases decide (n<0)
  ·intro b h
   obtain⟨d,aa,rfl⟩:=BI 20 n.toNat b (by simpa using h)
   exact hd d aa
  ·intro b h
   have h:b=45∨b∈fq 20 n.natAbs:=by simpa using h
   rcases h with h|h
   ·subst h;decide
   ·obtain⟨d,aa,rfl⟩:=BI 20 n.natAbs b h
    exact hd d aa
 exact this
theorem Oo{x:ByteArray}(h:valid x=true):eK 10 x:=by
 unfold valid at h
 cases hc:((decide ((ByteArray.size x:Int)<1))||(decide ((ByteArray.size x:Int)>24)))with
 |true=>rw[hc]at h;cases h
 |false=>
  rw[hc]at h;refine x5 h fun i=>?_
  unfold mO;show(true&&((i==0)||(true&&true)))=true
  cases (i==0)<;>rfl
theorem X0{x:ByteArray}(h:seen x=true):eK 10 x:=by
 unfold seen at h
 rw[Bool.and_eq_true]at h
 exact x5 h.1 fun i=>rfl
theorem Oq{d:Int}{c n:ByteArray}(hc:valid c=true)(hn:valid n=true):eK 10 (m18 d c n):=fun u hu=>by
 rw[HN,List.mem_append,List.mem_cons,List.mem_append,List.mem_cons]at hu
 rcases hu with h|h|h|h|h
 ·exact u9 d u h
 ·subst h;decide
 ·exact Oo hc u h
 ·subst h;decide
 ·exact Oo hn u h
theorem X1(b:ByteArray):eK 10 (l8 b):=fun u hu=>by
 rw[N5,List.mem_flatMap]at hu
 obtain⟨v,_,av⟩:=hu
 have: ∀n:Nat,n<256→∀u∈kQ (UInt8.ofNat n),u≠10:=by decide+kernel
 exact this v.toNat (UInt8.toNat_lt v) u (by rw[show UInt8.ofNat v.toNat=v from UInt8.ofNat_toNat];exact av)
theorem X2(s:ByteArray):eK 10 (lx s):=fun u hu=>by
 have: ∀n:Nat,n<256→∀u∈eD (UInt8.ofNat n),u≠10:=by decide+kernel
 rw[x4,List.mem_cons,List.mem_append,List.mem_singleton,List.mem_flatMap]at hu
 rcases hu with h|⟨v,_,av⟩|h
 ·subst h;decide
 ·exact this v.toNat (UInt8.toNat_lt v) u (by rw[show UInt8.ofNat v.toNat=v from UInt8.ofNat_toNat];exact av)
 ·subst h;decide
theorem va{c:Bool}{x y:ByteArray}(hx:eK 10 x)(ax:eK 10 y):eK 10 (bif c then x else y):=by
 cases c<;>assumption
theorem X3(v:cr):eK 10 (m17 v):=by
 unfold m17
 refine va (fun u hu=>by cases hu) (va (va (by unfold eK;decide) (by unfold eK;decide)) (va (u9 _) (va (jX (by unfold eK;decide) (u9 _)) (va ?_ (by unfold eK;decide)))))
 rw[yA]
 exact X2 _
theorem jA{Q:ByteArray × Int→Prop}{c:Bool}{x y:ByteArray × Int}(hx:c=true→Q x)(ax:c=false→Q y):Q (bif c then x else y):=by
 cases c with
 |true=>exact hx rfl
 |false=>exact ax rfl
def Ot(a:aT)(y:ByteArray × Int):Prop:=y.2=0→eK 10 y.1∧∃t,y.1.data.toList=(h0 a.kind).data.toList++t
theorem l3{a:aT}{s:ByteArray}{e:Int}(h:e≠0):Ot a (s,e):=fun aP=>absurd aP h
theorem X4(a:aT):Ot a (nX a):=by
 have q8:eK 10 (⟨#[32]⟩:ByteArray):=by unfold eK;decide
 have w:=XZ a.kind
 unfold nX
 refine jA (fun _=>jA (fun _=>l3 (by decide)) fun _=>jA (fun _=>l3 (by decide)) fun _=>jA (fun _=>l3 (by decide)) fun av=>jA (fun h=>l3 (by simpa using h)) fun _=>jA (fun _=>l3 (by decide)) fun _=>?_) fun _=>
  jA (fun _=>jA (fun _=>l3 (by decide)) fun _=>jA (fun _=>l3 (by decide)) fun _=>jA (fun _=>l3 (by decide)) fun av=>?_) fun _=>
  jA (fun _=>jA (fun _=>l3 (by decide)) fun _=>jA (fun _=>l3 (by decide)) fun aH=>?_) fun _=>
  jA (fun _=>jA (fun _=>l3 (by decide)) fun _=>?_) fun _=>
  jA (fun _=>jA (fun _=>l3 (by decide)) fun _=>?_) fun _=>jA (fun _=>l3 (by decide)) fun _=>?_
 ·have av:=u1 av
  exact fun _=>⟨jX (jX (jX (jX w q8) (Oq av.1 av.2)) q8) (X3 _),_,by simp only[jz,List.append_assoc];rfl⟩
 ·have av:=u1 av
  exact fun _=>⟨jX (jX w q8) (Oq av.1 av.2),_,by simp only[jz,List.append_assoc];rfl⟩
 ·unfold yE at aH
  rw[Bool.or_eq_false_iff,Bool.not_eq_false']at aH;exact fun _=>⟨jX (jX (jX (jX w q8) (X0 aH.2)) q8) (X1 _),_,by simp only[jz,List.append_assoc];rfl⟩
 ·exact fun _=>⟨jX (jX (jX (jX w q8) (u9 _)) q8) (u9 _),_,by simp only[jz,List.append_assoc];rfl⟩
 ·exact fun _=>⟨w,[],(List.append_nil _).symm⟩
 ·exact fun _=>⟨jX (jX w q8) (u9 _),_,by simp only[jz,List.append_assoc];rfl⟩
theorem X5: ∀i:Nat,i<16→(nS i).data.toList.getD 0 35≠35:=by decide+kernel
theorem X6{a:aT}(h:(fj a).2=0):eK 10 (fj a).1∧∃c t,(fj a).1.data.toList=c::t∧c≠35:=by
 obtain⟨cB,c4⟩:=NS (a:=a) (x:=(fj a).1) ⟨h,rfl⟩
 obtain⟨dx,t,dG⟩:=X4 a cB
 rw[c4]at dx dG
 refine⟨dx,?_⟩
 unfold fj at h
 obtain⟨eN,_,_⟩:=km (fun _=>by decide) h
 rw[Bool.or_eq_false_iff]at eN
 have g1:=of_decide_eq_false eN.1
 have g2:=of_decide_eq_false eN.2
 have hw:=X5 (a.kind-1).toNat (by omega)
 rw[Om (by omega),show(((a.kind-1).toNat+1:Nat):Int)=a.kind by omega]at hw
 cases an:(h0 a.kind).data.toList with
 |nil=>rw[an]at hw;exact absurd rfl hw
 |cons c l=>
  rw[an]at hw dG;exact⟨c,l++t,dG,hw⟩
noncomputable def iO(a:aT):List UInt8:=(fj a).1.data.toList++[10]
noncomputable def jv(l:List aT)(i4:Nat)(aF:(List Int) × Bool):Step (ByteArray × Int) ((List Int) × Bool):=
  bif((m6 (List.getD l (Int.toNat (i4:Int)) (ed .aT))).2 != 0)then
         .ret (⟨#[]⟩,(m6 (List.getD l (Int.toNat (i4:Int)) (ed .aT))).2)
        else(bif !aF.2 then .bP ((List.append (List.append aF.1 (dc.den .eY (m6 (List.getD l (Int.toNat (i4:Int)) (ed .aT))).1)) ([10]:List Int)),true)else
          (bif !aF.2 then .bP ((List.append (List.append aF.1 (dc.den .eY (m6 (List.getD l (Int.toNat (i4:Int)) (ed .aT))).1)) ([10]:List Int)),true)else .bP ((List.append (List.append aF.1 (dc.den .eY (m6 (List.getD l (Int.toNat (i4:Int)) (ed .aT))).1)) ([10]:List Int)),aF.2)))
theorem X7{l:List aT}(h: ∀a∈l,gF a): ∀(m k:Nat) (acc:List UInt8) (jV:Bool),k+m=l.length→
 (∃r,bS (jv l) k m (acc.map (fun u=>(u.toNat:Int)),jV)= .inl r∧r.2≠0)∨
 ((∃pQ,bS (jv l) k m (acc.map (fun u=>(u.toNat:Int)),jV)= .inr ((acc++(l.drop k).flatMap iO).map (fun u=>(u.toNat:Int)),pQ))∧∀a∈l.drop k,(fj a).2=0):=by
 intro m
 induction m with
 |zero=>
  intro k acc jV aj;refine .inr ?_
  rw[List.drop_eq_nil_of_le (by omega)]
  exact⟨⟨jV,by rw[List.flatMap_nil,List.append_nil];rfl⟩,fun a aI=>by cases aI⟩
 |succ m aO=>
  intro k acc jV aj
  have BM:k<l.length:=by omega
  have aI:=h _ (List.getElem_mem BM)
  have ag:List.getD l (Int.toNat (k:Int)) (ed .aT)=l[k]:=by
   rw[Int.toNat_natCast,List.getD_eq_getElem?_getD,List.getElem?_eq_getElem BM]
   rfl
  have e:=Ce aI
  unfold bS
  by_cases aP:(fj l[k]).2=0
  ·have k9: ∃pQ,jv l k (acc.map (fun u=>(u.toNat:Int)),jV)= .bP ((acc++iO l[k]).map (fun u=>(u.toNat:Int)),pQ):=by
    unfold jv;rw[ag,e,aP]
    have key:List.append (List.append (acc.map (fun u=>(u.toNat:Int))) (dc.den .eY (fj l[k]).1)) ([10]:List Int)=(acc++iO l[k]).map (fun u=>(u.toNat:Int)):=by
     unfold iO;rw[List.map_append,List.map_append,←List.append_assoc];rfl
    dsimp only;rw[key]
    cases jV<;>exact⟨_,rfl⟩
   obtain⟨pQ,ah⟩:=k9;rw[ah]
   rcases aO (k+1) (acc++iO l[k]) pQ (by omega)with⟨r,aa,af⟩|⟨⟨f2,aa⟩,af⟩
   ·exact .inl ⟨r,aa,af⟩
   ·refine .inr ⟨⟨f2,?_⟩,fun a hm=>?_⟩
    ·rw[List.drop_eq_getElem_cons BM,List.flatMap_cons,←List.append_assoc]
     exact aa
    ·rw[List.drop_eq_getElem_cons BM,List.mem_cons]at hm
     rcases hm with rfl|hm
     ·exact aP
     ·exact af a hm
  ·refine .inl ⟨(⟨#[]⟩,(fj l[k]).2),?_,aP⟩
   have ah:jv l k (acc.map (fun u=>(u.toNat:Int)),jV)= .ret (⟨#[]⟩,(fj l[k]).2):=by
    unfold jv;rw[ag,e,show((fj l[k]).2 != 0)=true by simpa using aP]
    rfl
   rw[ah]
theorem Pe{l:List aT}(h: ∀a∈l,gF a)(aP:(m7 l).2=0):(∀a∈l,(fj a).2=0)∧(m7 l).1.data.toList=l.flatMap iO:=by
 have e:m7 l=Sum.elim (fun r:ByteArray × Int=>r) (fun cG:List Int × Bool=>(bytesOf cG.1,(0:Int))) (bS (jv l) 0 l.length ([],false)):=by
  unfold m7;dsimp only;rw[Int.toNat_natCast];rfl
 rw[e]at aP⊢
 rcases X7 h l.length 0 [] false (Nat.zero_add _)with⟨r,aa,af⟩|⟨⟨f2,aa⟩,af⟩
 ·have aa:bS (jv l) 0 l.length ([],false)= .inl r:=aa
  rw[aa]at aP;exact absurd aP af
 ·have aa:bS (jv l) 0 l.length ([],false)= .inr ((l.flatMap iO).map (fun u=>(u.toNat:Int)),f2):=aa
  rw[aa];refine⟨af,?_⟩
  show(bytesOf ((l.flatMap iO).map fun u=>(u.toNat:Int))).data.toList=_;rw[sS,HD]
theorem Ou(g:Nat)(n:Int)(l:List aT):iw g ⟨#[]⟩ n l=(l,0,0):=by
 cases g<;>rfl
theorem ye{s:ByteArray}{c:UInt8}{t:List UInt8}(h:s.data.toList=c::t):s≠⟨#[]⟩:=fun e=>by
 subst e
 cases h
theorem HW: ∀(l:List aT) (g:Nat) (t tail:ByteArray) (n:Int) (acc:List aT),(∀a∈l,gF a∧(fj a).2=0)→t.data.toList=l.flatMap iO++tail.data.toList→iw (g+l.length) t n acc=iw g tail (n+l.length) (acc++l)
 |[],g,t,tail,n,acc,_,aB=>by
  have:t=tail:=mH (by rw[aB];rfl)
  rw[this,List.append_nil];show iw g tail n acc=iw g tail (n+0) acc;rw[Int.add_zero]
 |a::l,g,t,tail,n,acc,h,aB=>by
  obtain⟨aI,aP⟩:=h a (List.mem_cons_self ..);obtain⟨hn,c,u,hc,bX⟩:=X6 aP
  have fk:(⟨(l.flatMap iO++tail.data.toList).toArray⟩:ByteArray).data.toList=l.flatMap iO++tail.data.toList:=rfl
  generalize Zb:(⟨(l.flatMap iO++tail.data.toList).toArray⟩:ByteArray)=R at fk
  have xC:t.data.toList=(fj a).1.data.toList++10::R.data.toList:=by
   rw[aB,fk,List.flatMap_cons];unfold iO;simp
  have u3:=pR xC hn
  have ah:t≠⟨#[]⟩:=ye (c:=c) (t:=u++10::R.data.toList) (by rw[xC,hc];rfl)
  have zc:=ye hc
  have ad:(aK (fj a).1 0==35)=false:=by
   rw[show aK (fj a).1 0=(c.toNat:Int)from gA hc 0,beq_eq_false_iff_ne]
   exact fun q=>bX (uY.1 (show(c.toNat:Int)=((35:UInt8).toNat:Int)from q))
  have di:lp (fj a).1 n acc= .inr (acc++[a]):=by
   unfold lp;rw[x8 zc,ad,XY aI aP];rfl
  rw[show g+(a::l).length=(g+l.length)+1 by simp;omega,u2 ah (by rw[u3]) (by rw[u3]),di]
  show iw (g+l.length) R (n+1) (acc++[a])=_;rw[HW l g R tail (n+1) (acc++[a]) (fun b ad=>h b (List.mem_cons_of_mem _ ad)) fk,List.append_assoc]
  congr 1
  simp only[List.length_cons];omega
theorem Ov(l:List aT):l.length≤(l.flatMap iO).length:=by
 induction l with
 |nil=>exact Nat.le_refl _
 |cons a l aO=>
  rw[List.flatMap_cons,List.length_append];unfold iO at aO⊢;simp only[List.length_cons,List.length_append,List.length_nil];omega
theorem Pf{l:List aT}{t:ByteArray}(h: ∀a∈l,gF a∧(fj a).2=0)(aB:t.data.toList=l.flatMap iO)(ah:t.size≤1048576):m8 t=(l,0,0):=by
 have an:=Ov l
 have bA:t.size=(l.flatMap iO).length:=kl aB
 rw[NZ ah,show t.size+1=(t.size+1-l.length)+l.length by omega,HW l _ t ⟨#[]⟩ 1 [] h (by rw[aB];exact(List.append_nil _).symm),Ou]
 rfl
theorem Pg{l:List aT}{t:ByteArray}(h: ∀a∈l,gF a∧(fj a).2=0)(aB:t.data.toList=l.flatMap iO)(ah:t.size≤1048564):
 m8 (ByteArray.append (ByteArray.append (⟨#[35,32,98,101,103,105,110,10,10]⟩:ByteArray) t) (⟨#[35,10]⟩:ByteArray))=(l,0,0):=by
 have an:=Ov l
 have bA:t.size=(l.flatMap iO).length:=kl aB
 generalize hx:ByteArray.append (ByteArray.append (⟨#[35,32,98,101,103,105,110,10,10]⟩:ByteArray) t) (⟨#[35,10]⟩:ByteArray)=x
 have iD:x.data.toList=[35,32,98,101,103,105,110,10,10]++(t.data.toList++[35,10]):=by
  rw[←hx];simp only[jz,List.append_assoc]
 have lD:x.size=t.size+11:=by
  rw[kl iD];simp only[List.length_append,List.length_cons,List.length_nil];show 9+(t.size+2)=_;omega
 have aa:(⟨(10::(t.data.toList++[35,10])).toArray⟩:ByteArray).data.toList=10::(t.data.toList++[35,10]):=rfl
 generalize (⟨(10::(t.data.toList++[35,10])).toArray⟩:ByteArray)=cB at aa
 have af:(⟨(t.data.toList++[35,10]).toArray⟩:ByteArray).data.toList=t.data.toList++[35,10]:=rfl
 generalize (⟨(t.data.toList++[35,10]).toArray⟩:ByteArray)=c4 at af
 have aF:cM 10 x=(⟨#[35,32,98,101,103,105,110]⟩,cB,true):=pR (by rw[iD,aa];rfl) (by unfold eK;decide)
 have ea:cM 10 cB=(⟨#[]⟩,c4,true):=pR (by rw[aa,af];rfl) (fun u hu=>by cases hu)
 have fU:cM 10 (⟨#[35,10]⟩:ByteArray)=(⟨#[35]⟩,⟨#[]⟩,true):=pR rfl (by unfold eK;decide)
 have fc:x≠⟨#[]⟩:=ye (by rw[iD];rfl)
 have ey:cB≠⟨#[]⟩:=ye aa
 have qS:(⟨#[35,10]⟩:ByteArray)≠⟨#[]⟩:=ye (c:=35) (t:=[10]) rfl
 have s1: ∀n l,lp ⟨#[35,32,98,101,103,105,110]⟩ n l= .inr l:=fun n l=>rfl
 have s2: ∀n l,lp ⟨#[]⟩ n l= .inr l:=fun n l=>rfl
 have lV: ∀n l,lp ⟨#[35]⟩ n l= .inr l:=fun n l=>rfl
 obtain⟨k,aj⟩: ∃k,x.size+1=(k+1+l.length)+1+1:=⟨x.size-2-l.length,by omega⟩
 rw[NZ (by omega),aj,u2 fc (by rw[aF]) (by rw[aF]),s1]
 show iw (k+1+l.length+1) cB (1+1) []=_
 rw[u2 ey (by rw[ea]) (by rw[ea]),s2]
 show iw (k+1+l.length) c4 (1+1+1) []=_
 rw[HW l _ c4 ⟨#[35,10]⟩ _ [] h (by rw[af,aB]),u2 qS (by rw[fU]) (by rw[fU]),lV]
 show iw _ ⟨#[]⟩ _ ([]++l)=_
 rw[Ou]
 rfl
end Go.aG
namespace Go.aG
open Go Go.du
theorem H0{x:ByteArray}(hx:bD x)(h:(m5 x).2=0):gF (m5 x).1∧m6 (m5 x).1=(x,0):=by
 by_cases aH: ∃k:Nat,k<16∧nS k=(cM 32 x).1
 ·obtain⟨k,aj,he⟩:=aH
  have iR:gF (m12 ((k+1:Nat):Int) (cM 32 x).2.1).1:=IY ⟨by omega,by omega⟩ (HC hx).2
  rw[NR hx aj he]at h⊢
  cases u7:l2 x ((k+1:Nat):Int) (cM 32 x).2.1 with
  |false=>rw[u7]at h;exact absurd h (show ¬(4:Int)=0 by decide)
  |true=>
   refine⟨iR,?_⟩
   unfold l2 at u7;rw[Bool.and_eq_true,Bool.and_eq_true]at u7;obtain⟨⟨_,aF⟩,ea⟩:=u7
   have ea:bR (m6 (m12 ((k+1:Nat):Int) (cM 32 x).2.1).1).1 x=true:=ea
   exact Prod.ext (sZ.1 ea) (by simpa using aF)
 ·rw[Xv hx fun i hi e=>aH ⟨i,hi,e⟩]at h
  exact absurd h (show ¬(4:Int)=0 by decide)
end Go.aG
