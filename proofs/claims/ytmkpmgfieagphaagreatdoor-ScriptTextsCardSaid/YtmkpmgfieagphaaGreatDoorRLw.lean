/- Text: the program's and the reference's are one. Conditions: none. -/
import Derived.Test.YtmkpmgfieagphaaGreatDoorRLu
namespace Go.aM
open Go Go.ed
theorem NC(a b:ByteArray):db.den .eu (ByteArray.append a b)=db.den .eu a++db.den .eu b:=by
 show(ByteArray.append a b).data.toList.map _=a.data.toList.map _++b.data.toList.map _
 rw[qB,List.map_append]
theorem VX(a:ByteArray):bytesOf (db.den .eu a)=a:=E9 a
theorem ND(a:ByteArray):List.length (db.den .eu a)=a.size:=by
 show(a.data.toList.map _).length=_
 rw[List.length_map]
 rfl
theorem NF{R A A':Type}{b:Nat→A→Step R A}{b':Nat→A'→Step R A'}(I:A→A'→Prop)(n:Nat)
 (h: ∀i a aY,i<n→I a aY→(∃r,b i a= .ret r∧b' i aY= .ret r)∨∃c jL,b i a= .bn c∧b' i aY= .bn jL∧I c jL):
 ∀(m k:Nat) (a:A) (aY:A'),k+m=n→I a aY→(∃r,bL b k m a= .inl r∧bL b' k m aY= .inl r)∨∃c jL,bL b k m a= .inr c∧bL b' k m aY= .inr jL∧I c jL:=by
 intro m
 induction m with
 |zero=>intro k a aY _ hi;exact .inr ⟨a,aY,rfl,rfl,hi⟩
 |succ m aR=>
  intro k a aY aj hi;unfold bL
  rcases h k a aY (by omega) hi with⟨r,aa,ad⟩|⟨c,jL,aa,ad,aq⟩
  ·rw[aa,ad];exact .inl ⟨r,rfl,rfl⟩
  ·rw[aa,ad];exact aR (k+1) c jL (by omega) aq
theorem TA{l:List aK}(h: ∀a∈l,hM a):m18 l=m19 l:=by
  unfold m18 m19;dsimp only
  have hn:Int.toNat (l.length:Int)=l.length:=Int.toNat_natCast _
  rw[hn]
  have H:=NF (R:=ByteArray × Int) (fun(a:List Int × Bool) (aY:ByteArray)=>a.1=db.den .eu aY) l.length
      (b:=fun(i4:Nat) (aw:(List Int) × Bool)=>bif((m13 (List.getD l (Int.toNat (i4:Int)) (dJ .aK))).2 != 0)then
         .ret (⟨#[]⟩,(m13 (List.getD l (Int.toNat (i4:Int)) (dJ .aK))).2)
        else(bif !aw.2 then .bn ((List.append (List.append aw.1 (db.den .eu (m13 (List.getD l (Int.toNat (i4:Int)) (dJ .aK))).1)) ([10]:List Int)),true)else
          (bif !aw.2 then .bn ((List.append (List.append aw.1 (db.den .eu (m13 (List.getD l (Int.toNat (i4:Int)) (dJ .aK))).1)) ([10]:List Int)),true)else .bn ((List.append (List.append aw.1 (db.den .eu (m13 (List.getD l (Int.toNat (i4:Int)) (dJ .aK))).1)) ([10]:List Int)),aw.2))))
      (b':=fun(i3:Nat) (aw:ByteArray)=>bif((m14 (List.getD l (Int.toNat (i3:Int)) (dJ .aK))).2 != 0)then
         .ret (⟨#[]⟩,(m14 (List.getD l (Int.toNat (i3:Int)) (dJ .aK))).2)
        else .bn (ByteArray.append (ByteArray.append aw (m14 (List.getD l (Int.toNat (i3:Int)) (dJ .aK))).1) (⟨#[10]⟩:ByteArray)))
      (fun i a aY hi cd=>by
        have hm:List.getD l (Int.toNat (i:Int)) (dJ .aK)∈l:=by
          rw[Int.toNat_natCast,List.getD_eq_getElem?_getD,List.getElem?_eq_getElem hi]
          exact List.getElem_mem _
        have aI:=h _ hm
        generalize List.getD l (Int.toNat (i:Int)) (dJ .aK)=x at aI⊢
        have e:m14 x=m13 x:=by rw[A9 aI,Ba aI]
        rw[e]
        cases aL:((m13 x).2 != 0)with
        |true=>exact .inl ⟨_,rfl,rfl⟩
        |false=>
          refine .inr ?_
          obtain⟨a,f⟩:=a
          have key:List.append (List.append a (db.den .eu (m13 x).1)) ([10]:List Int)=db.den .eu (ByteArray.append (ByteArray.append aY (m13 x).1) (⟨#[10]⟩:ByteArray)):=by
            rw[NC,NC]
            have cd:a=db.den .eu aY:=cd
            rw[cd];rfl
          cases f with
          |true=>exact⟨_,_,rfl,rfl,key⟩
          |false=>exact⟨_,_,rfl,rfl,key⟩) l.length 0 ([],false) ⟨#[]⟩ (Nat.zero_add _) rfl
  rcases H with⟨r,aa,ad⟩|⟨c,jL,aa,ad,aq⟩
  · have tS:=aa
    refine Eq.trans (b:=r) ?_ ?_
    · exact congrArg (Sum.elim _ _) aa
    · exact(congrArg (Sum.elim (fun r:ByteArray × Int=>r) (fun bj:ByteArray=>(bj,(0:Int)))) ad).symm
  · refine Eq.trans (b:=(bytesOf c.1,0)) ?_ (Eq.trans (b:=(jL,0)) ?_ ?_)
    · exact congrArg (Sum.elim _ _) aa
    · rw[aq,VX]
    · exact(congrArg (Sum.elim (fun r:ByteArray × Int=>r) (fun bj:ByteArray=>(bj,(0:Int)))) ad).symm
theorem NG{x:ByteArray}(h:valid x=true):x.size≤24:=by
 unfold valid at h
 cases hc:((decide ((ByteArray.size x:Int)<1))||(decide ((ByteArray.size x:Int)>24)))with
 |true=>rw[hc]at h;cases h
 |false=>
  simp only[Bool.or_eq_false_iff,decide_eq_false_iff_not]at hc;omega
theorem VY{x:ByteArray}(h:seen x=true):x.size≤1000:=by
 unfold seen at h
 simp only[Bool.and_eq_true,decide_eq_true_eq]at h
 omega
theorem iM{c:Bool}{x y:ByteArray × Int}{n:Nat}(hx:c=true→x.1.size≤n)(az:c=false→y.1.size≤n):(bif c then x else y).1.size≤n:=by
 cases c with
 |true=>exact hx rfl
 |false=>exact az rfl
theorem NH{a b:Bool}(h:(!a|| !b)=false):a=true∧b=true:=by
 cases a<;>cases b<;>first|exact⟨rfl,rfl⟩|cases h
theorem VZ{a:aK}(aI:hM a):(mM a).1.size≤2100000:=by
 have z0: ∀k:Int,((⟨#[]⟩,k):ByteArray × Int).1.size≤2100000:=fun _=>Nat.zero_le _
 have MJ:ByteArray.size (⟨#[32]⟩:ByteArray)=1:=rfl
 have MK:=nC a.n
 have sm:=nC a.m
 have ML:=EX a.kind
 have c1:=ES a.value
 have vv: ∀(d:Int) (c n:ByteArray),(!(valid c)|| !(valid n))=false→(gY d c n).size≤71:=fun d c n h=>by
  have aa:=NG (NH h).1
  have ad:=NG (NH h).2
  have:=Bc d c n
  omega
 unfold mM
 refine iM (fun _=>iM (fun _=>z0 _) fun _=>iM (fun _=>z0 _) fun _=>iM (fun _=>z0 _) fun av=>iM (fun _=>z0 _) fun _=>iM (fun _=>z0 _) fun _=>?_) fun _=>
  iM (fun _=>iM (fun _=>z0 _) fun _=>iM (fun _=>z0 _) fun _=>iM (fun _=>z0 _) fun av=>?_) fun _=>
  iM (fun _=>iM (fun _=>z0 _) fun _=>iM (fun _=>z0 _) fun aL=>?_) fun _=>
  iM (fun _=>iM (fun _=>z0 _) fun _=>?_) fun _=>
  iM (fun _=>iM (fun _=>z0 _) fun _=>?_) fun _=>iM (fun _=>z0 _) fun _=>?_
 ·have:=vv a.key.dev _ _ av
  simp only[eY];omega
 ·have:=vv a.event.dev _ _ av
  simp only[eY];omega
 ·unfold EV at aL
  rw[Bool.or_eq_false_iff,Bool.not_eq_false']at aL
  have aa:=EW aI.q aL.1
  have ad:=A3 (eZ a.asked.request)
  have aq:=VY aL.2
  simp only[eY];omega
 ·simp only[eY]
  omega
 ·show(hP a.kind).size≤_
  omega
 ·simp only[eY]
  omega
theorem V0{a:aK}(aI:hM a):(iI a).1.size≤2100000:=by
 have z0: ∀k:Int,((⟨#[]⟩,k):ByteArray × Int).1.size≤2100000:=fun _=>Nat.zero_le _
 unfold iI
 exact iM (fun _=>z0 _) fun _=>iM (fun _=>z0 _) fun _=>VZ aI
theorem NI{a:aK}(aI:hM a):(m13 a).1.size≤2100000:=by
 rw[A9 aI]
 exact V0 aI
theorem NJ{l:List aK}{i:Nat}(hi:i<Int.toNat (l.length:Int)):List.getD l (Int.toNat (i:Int)) (dJ .aK)∈l:=by
 rw[Int.toNat_natCast]at hi
 rw[Int.toNat_natCast,List.getD_eq_getElem?_getD,List.getElem?_eq_getElem hi]
 exact List.getElem_mem _
theorem Tu{l:List aK}(h: ∀a∈l,hM a)(ao:l.length≤100):BH l:=by
 unfold BH
 refine⟨fun i d=>d.1.length≤i*2100001,Nat.zero_le _,fun i d hi hd=>?_⟩
 have aI:=h _ (NJ hi)
 rw[Int.toNat_natCast]at hi
 generalize List.getD l (Int.toNat (i:Int)) (dJ .aK)=x at aI⊢
 refine⟨Bf aI,fun bu=>?_⟩
 have ag:=NI aI
 have hd:d.1.length≤i*2100001:=hd
 have eT:i*2100001≤99*2100001:=Nat.mul_le_mul_right _ (by omega)
 have aA:List.length (List.append d.1 (db.den .eu (m13 x).1))=d.1.length+(m13 x).1.size:=by rw[List.append_eq,List.length_append];exact congrArg _ (ND _)
 have aW:List.length (List.append (List.append d.1 (db.den .eu (m13 x).1)) ([10]:List Int))=d.1.length+(m13 x).1.size+1:=by rw[List.append_eq,List.length_append,aA];rfl
 have cr:List.length (db.den .eu (m13 x).1)=(m13 x).1.size:=ND _
 have key: ∀v:Bool,(List.length (List.append d.1 (db.den .eu (m13 x).1))+List.length ([10]:List Int)≤maxLen∧(List.length (List.append d.1 (db.den .eu (m13 x).1))+List.length ([10]:List Int))*1≤140737488355328)∧(List.append (List.append d.1 (db.den .eu (m13 x).1)) ([10]:List Int),v).1.length≤(i+1)*2100001:=fun v=>by
  rw[aA];show(_+1≤maxLen∧(_+1)*1≤140737488355328)∧List.length (List.append (List.append d.1 (db.den .eu (m13 x).1)) ([10]:List Int))≤_;rw[aW];unfold maxLen;omega
 have NK:List.length d.1+List.length (db.den .eu (m13 x).1)≤maxLen∧(List.length d.1+List.length (db.den .eu (m13 x).1))*1≤140737488355328:=by
  rw[cr];unfold maxLen;omega
 exact⟨fun _=>⟨NK,⟨fun q=>(by cases q),fun _=>key true⟩⟩,fun _=>⟨NK,⟨fun _=>key true,fun _=>key d.2⟩⟩⟩
theorem Tv{l:List aK}(h: ∀a∈l,hM a)(ao:l.length≤100):BI l:=by
 unfold BI
 refine⟨fun i d=>d.size≤i*2100001,Nat.zero_le _,fun i d hi hd=>?_⟩
 have aI:=h _ (NJ hi)
 rw[Int.toNat_natCast]at hi
 generalize List.getD l (Int.toNat (i:Int)) (dJ .aK)=x at aI⊢
 refine⟨MM aI,fun bu=>?_⟩
 have ag:(m14 x).1.size≤2100000:=by
  rw[Ba aI,←A9 aI];exact NI aI
 have hd:d.size≤i*2100001:=hd
 have eT:i*2100001≤99*2100001:=Nat.mul_le_mul_right _ (by omega)
 have aA:(ByteArray.append d (m14 x).1).size=d.size+(m14 x).1.size:=eY _ _
 refine⟨by omega,?_,?_⟩
 ·rw[aA]
  show _+1≤_;omega
 ·show(ByteArray.append (ByteArray.append d (m14 x).1) (⟨#[10]⟩:ByteArray)).size≤_
  rw[eY,aA];show _+1≤_;omega
end Go.aM
namespace Go.aM
open Go Go.ed
theorem V1{x:ByteArray}(h:x.size=0):x=⟨#[]⟩:=mB (List.eq_nil_of_length_eq_zero h)
theorem BJ(s:ByteArray)(a b:Nat):(s.extract a b).data.toList=(s.data.toList.take b).drop a:=by
 rw[ByteArray.data_extract,Array.toList_extract,List.drop_take]
theorem V2(c:UInt8)(x:ByteArray):(eV x (c.toNat:Int)= -1∧iJ c x)∨∃q:Nat,eV x (c.toNat:Int)=(q:Int)∧q<x.size∧iJ c (x.extract 0 q)∧x.data.toList=(x.extract 0 q).data.toList++c::x.data.toList.drop (q+1):=by
 rw[M6]
 cases hf:(List.range' 0 x.size).find? (fun i:Nat=>aC x (i:Int)==(c.toNat:Int))with
 |none=>
  refine .inl ⟨rfl,fun u hu e=>?_⟩
  subst e;obtain⟨i,hi,he⟩:=List.getElem_of_mem hu
  have:=List.find?_eq_none.1 hf i (by rw[List.mem_range'_1];exact⟨Nat.zero_le _,by rw[Nat.zero_add];exact hi⟩)
  rw[jr rfl,List.getD_eq_getElem?_getD,List.getElem?_eq_getElem hi,Option.getD_some,he]at this
  simp at this
 |some q=>
  obtain⟨aa,ad,aq⟩:=List.find?_range'_eq_some.1 hf
  rw[List.mem_range'_1,Nat.zero_add]at ad
  have aL:q<x.data.toList.length:=ad.2
  rw[jr rfl,List.getD_eq_getElem?_getD,List.getElem?_eq_getElem aL,Option.getD_some,beq_iff_eq,tK]at aa
  refine .inr ⟨q,rfl,ad.2,fun u hu e=>?_,?_⟩
  ·subst e
   rw[BJ,List.drop_zero]at hu;obtain⟨i,hi,he⟩:=List.getElem_of_mem hu;rw[List.length_take]at hi
   have iK:i<x.data.toList.length:=by omega
   rw[List.getElem_take]at he
   have:=aq i (Nat.zero_le _) (by omega)
   rw[jr rfl,List.getD_eq_getElem?_getD,List.getElem?_eq_getElem iK,Option.getD_some,he]at this
   simp at this
  ·rw[BJ,List.drop_zero]
   have e:x.data.toList=x.data.toList.take q++x.data.toList.drop q:=(List.take_append_drop q _).symm
   rw[List.drop_eq_getElem_cons aL,aa]at e;exact e
noncomputable def l6:Nat→ByteArray→Int→List aK→List aK × Int × Int
 |0,_,_,l=>(l,0,0)
 |f+1,s,n,l=>bif a8 .neq s (⟨#[]⟩:ByteArray)then
  (bif((a8 .eql (aO 10 s).1 (⟨#[]⟩:ByteArray))||((aC (aO 10 s).1 (0:Int))==35))then l6 f (aO 10 s).2.1 (n+1) l
   else bif((m16 (aO 10 s).1).2 != 0)then([],n,4)else l6 f (aO 10 s).2.1 (n+1) (List.append l [(m16 (aO 10 s).1).1]))
  else(l,0,0)
theorem Fx{c:UInt8}{s:ByteArray}(h:s≠⟨#[]⟩):(aO c s).2.1.size<s.size:=by
 have aU:0<s.size:=Nat.pos_of_ne_zero fun e=>h (V1 e)
 unfold aO
 cases (List.range' 0 s.size).find? (fun i:Nat=>aC s (i:Int)==(c.toNat:Int))with
 |none=>exact aU
 |some i=>
  show(s.extract (i+1) s.size).size<_;rw[ByteArray.size_extract];omega
theorem Fy(x:ByteArray):a8 .neq x (⟨#[]⟩:ByteArray)=true↔x≠⟨#[]⟩:=by
 show(!bq x ⟨#[]⟩)=true↔_
 simp
noncomputable def NL(aw:ByteArray × Int × (List aK)):Step ((List aK) × Int × Int) (ByteArray × Int × (List aK)):=
 bif(a8 .neq aw.1 (⟨#[]⟩:ByteArray))then
  (bif((a8 .eql (cv aw.1 (10:Int)).1 (⟨#[]⟩:ByteArray))||((aC (cv aw.1 (10:Int)).1 (0:Int))==35))then
   .bn ((cv aw.1 (10:Int)).2,(IntKind.wrap .i64 (aw.2.1+(1:Int))),aw.2.2)
   else bif((m17 (cv aw.1 (10:Int)).1).2 != 0)then .ret ([],aw.2.1,4)
    else .bn ((cv aw.1 (10:Int)).2,(IntKind.wrap .i64 (aw.2.1+(1:Int))),(List.append aw.2.2 ([(m17 (cv aw.1 (10:Int)).1).1]:List aK))))
 else .b8 (aw.1,aw.2.1,aw.2.2)
noncomputable def V3(r:((List aK) × Int × Int)⊕(ByteArray × Int × (List aK))):(List aK) × Int × Int:=Sum.elim (fun r=>r) (fun bj=>(bj.2.2,0,0)) r
theorem V4: ∀(f:Nat) (s:ByteArray) (n:Int) (l:List aK) (g:Nat),s.size<f→f≤g→fS s→0≤n→n+f≤100000→V3 (b4 NL g (s,n,l))=l6 f s n l:=by
 intro f
 induction f with
 |zero=>intro s n l g h;omega
 |succ f aR=>
  intro s n l g aa ad aq aS bC;obtain⟨g,rfl⟩: ∃k,g=k+1:=⟨g-1,by omega⟩
  unfold b4 l6 NL;dsimp only
  cases ag:a8 .neq s (⟨#[]⟩:ByteArray)with
  |false=>rfl
  |true=>
   have cb:=(Fy s).1 ag
   have af:=Fx (c:=10) cb
   have hc:=BD (c:=10) aq
   have e:cv s 10=((aO 10 s).1,(aO 10 s).2.1):=qy aq.l5 10
   have w:IntKind.wrap .i64 (n+1)=n+1:=c4 _ (by omega) (by omega)
   rw[e,w,←VO hc.1.l5];dsimp only;rw[cond_true,cond_true]
   have i:=fun m=>aR (aO 10 s).2.1 (n+1) m g (by omega) (by omega) hc.2 (by omega) (by omega)
   cases ((a8 .eql (aO 10 s).1 (⟨#[]⟩:ByteArray))||((aC (aO 10 s).1 (0:Int))==35))with
   |true=>exact i l
   |false=>
    rw[cond_false,cond_false]
    cases ((m16 (aO 10 s).1).2 != 0)with
    |true=>rfl
    |false=>exact i _
theorem Ts{x:ByteArray}(h:fS x):m21 x=l6 (x.size+1) x 1 []:=by
 have h':x.size≤6000:=h
 unfold m21
 rw[decide_eq_false (show ¬(x.size:Int)>1048576 by omega),cond_false]
 exact V4 (x.size+1) x 1 [] cn (by omega) (show _≤18446744073709551616 by omega) h (by omega) (by omega)
def Left(x:ByteArray)(line:ByteArray)(done:Bool)(pos:Int)(s:ByteArray):Prop:=
 iJ 10 line∧(bif done then s=line else False)∨iJ 10 line∧done=false∧∃p:Nat,pos=(p:Int)∧p≤x.size∧s.data.toList=line.data.toList++10::x.data.toList.drop p
noncomputable def qE(x0:ByteArray)(aw:Int × ByteArray × Bool × (List aK) × Bool × Int):Step ((List aK) × Int × Int) (Int × ByteArray × Bool × (List aK) × Bool × Int):=
 bif aw.2.2.1 then
  let ay:Int→(List aK)→Step ((List aK) × Int × Int) (Int × ByteArray × Bool × (List aK) × Bool × Int):=fun v12 c6=>
   let ay:ByteArray→Bool→Bool→Int→Step ((List aK) × Int × Int) (Int × ByteArray × Bool × (List aK) × Bool × Int):=fun c0 cN v20 v21=>
    .bn (v12,c0,cN,c6,v20,v21)
   bif aw.2.2.2.2.1 then
    ay (⟨#[]⟩:ByteArray) false aw.2.2.2.2.1 aw.2.2.2.2.2
   else
    let cN:=jo (bk x0 (some aw.2.2.2.2.2) none) (10:Int)
    bif(decide (cN<0))then
     ay (bk x0 (some aw.2.2.2.2.2) none) true true aw.2.2.2.2.2
    else
     ay (bk x0 (some aw.2.2.2.2.2) (some (IntKind.wrap .i64 (aw.2.2.2.2.2+cN)))) true aw.2.2.2.2.1 (IntKind.wrap .i64 (aw.2.2.2.2.2+(IntKind.wrap .i64 (cN+(1:Int)))))
  let v12:Int:=IntKind.wrap .i64 (aw.1+(1:Int))
  bif((a8 .eql aw.2.1 (⟨#[]⟩:ByteArray))||((aC aw.2.1 (0:Int))==35))then
   ay v12 aw.2.2.2.1
  else
   let c6:=m16 aw.2.1
   bif(c6.2 != 0)then
    .ret ([],v12,4)
   else
    ay v12 (List.append aw.2.2.2.1 ([c6.1]:List aK))
 else
  .b8 (aw.1,aw.2.1,aw.2.2.1,aw.2.2.2.1,aw.2.2.2.2.1,aw.2.2.2.2.2)
noncomputable def yh(r:((List aK) × Int × Int)⊕(Int × ByteArray × Bool × (List aK) × Bool × Int)):(List aK) × Int × Int:=Sum.elim (fun r=>r) (fun bj=>(bj.2.2.2.1,0,0)) r
noncomputable def tT(x:ByteArray)(p:Nat)(cnt:Int)(l:List aK):Int × ByteArray × Bool × (List aK) × Bool × Int:=
 bif decide (eV (bk x (some (p:Int)) none) 10<0)then(cnt,bk x (some (p:Int)) none,true,l,true,(p:Int))
 else(cnt,bk x (some (p:Int)) (some ((p:Int)+eV (bk x (some (p:Int)) none) 10)),true,l,false,(p:Int)+(eV (bk x (some (p:Int)) none) 10+1))
noncomputable def qF(line:ByteArray)(n:Int)(l:List aK):(List aK × Int × Int)⊕List aK:=
 bif((a8 .eql line (⟨#[]⟩:ByteArray))||((aC line (0:Int))==35))then .inr l else bif((m16 line).2 != 0)then .inl ([],n,4)else .inr (List.append l [(m16 line).1])
theorem NM{f:Nat}{s line rest:ByteArray}{n:Int}{l:List aK}(ag:s≠⟨#[]⟩)(aa:(aO 10 s).1=line)(ad:(aO 10 s).2.1=rest):l6 (f+1) s n l=match qF line n l with| .inl r=>r| .inr eW=>l6 f rest (n+1) eW:=by
 conv=>lhs;unfold l6
 unfold qF
 rw[(Fy s).2 ag,cond_true,aa,ad]
 cases ((a8 .eql line (⟨#[]⟩:ByteArray))||((aC line (0:Int))==35))with
 |true=>rfl
 |false=>
  rw[cond_false,cond_false]
  cases ((m16 line).2 != 0)<;>rfl
theorem V5{x line:ByteArray}{cnt pos:Int}{l:List aK}(hc:0≤cnt∧cnt≤2000000):qE x (cnt,line,true,l,true,pos)=match qF line (cnt+1) l with| .inl r=>.ret r| .inr eW=>.bn (cnt+1,⟨#[]⟩,false,eW,true,pos):=by
 have w:IntKind.wrap .i64 (cnt+1)=cnt+1:=c4 _ (by omega) (by omega)
 unfold qE qF
 dsimp only
 rw[w,cond_true]
 cases ((a8 .eql line (⟨#[]⟩:ByteArray))||((aC line (0:Int))==35))with
 |true=>rfl
 |false=>
  rw[cond_false,cond_false]
  cases ((m16 line).2 != 0)<;>rfl
theorem V6{x line:ByteArray}{cnt:Int}{p:Nat}{l:List aK}(hc:0≤cnt∧cnt≤2000000)(ak:p≤x.size)(hx:x.size≤1048576):qE x (cnt,line,true,l,false,(p:Int))=match qF line (cnt+1) l with| .inl r=>.ret r| .inr eW=>.bn (tT x p (cnt+1) eW):=by
 have w:IntKind.wrap .i64 (cnt+1)=cnt+1:=c4 _ (by omega) (by omega)
 have af:=rS (bk x (some (p:Int)) none) 10
 rw[Bo]at af
 have e:jo (bk x (some (p:Int)) none) 10=eV (bk x (some (p:Int)) none) 10:=rfl
 unfold qE qF tT
 dsimp only
 rw[w,cond_true,e]
 generalize eV (bk x (some (p:Int)) none) 10=q at af⊢
 have cy:IntKind.wrap .i64 ((p:Int)+q)=p+q:=c4 _ (by omega) (by omega)
 have im:IntKind.wrap .i64 (q+1)=q+1:=c4 _ (by omega) (by omega)
 have mQ:IntKind.wrap .i64 ((p:Int)+(q+1))=p+(q+1):=c4 _ (by omega) (by omega)
 rw[cy,im,mQ]
 cases ((a8 .eql line (⟨#[]⟩:ByteArray))||((aC line (0:Int))==35))with
 |true=>cases decide (q<0)<;>rfl
 |false=>
  rw[cond_false,cond_false]
  cases ((m16 line).2 != 0)with
  |true=>rfl
  |false=>cases decide (q<0)<;>rfl
theorem Fz(x:ByteArray)(p:Nat):(bk x (some (p:Int)) none).data.toList=x.data.toList.drop p:=Na rfl p
theorem NN{x r:ByteArray}{p:Nat}{cnt:Int}{l:List aK}(af:r.data.toList=x.data.toList.drop p)(ak:p≤x.size):
 ∃line done pos,tT x p cnt l=(cnt,line,true,l,done,pos)∧Left x line done pos r:=by
 have V7:bk x (some (p:Int)) none=r:=mB (by rw[Fz,af])
 unfold tT
 rw[V7]
 rcases V2 10 r with⟨aa,ad⟩|⟨q,aa,ad,aq,aS⟩
 ·have aa:eV r 10= -1:=aa
  rw[aa,decide_eq_true (by decide),cond_true]
  exact⟨_,_,_,rfl,.inl ⟨ad,rfl⟩⟩
 ·have aa:eV r 10=(q:Int):=aa
  rw[aa,decide_eq_false (by omega),cond_false]
  have el:bk x (some (p:Int)) (some ((p:Int)+(q:Int)))=r.extract 0 q:=mB (by
   show(x.extract ((p:Int)).toNat ((p:Int)+(q:Int)).toNat).data.toList=_
   rw[BJ,BJ,af,List.drop_zero,show((p:Int)+(q:Int)).toNat=p+q by omega,Int.toNat_natCast,List.drop_take,show p+q-p=q by omega])
  rw[el];refine⟨_,_,_,rfl,.inr ⟨aq,rfl,p+(q+1),by omega,?_,?_⟩⟩
  ·have:r.size=x.size-p:=by rw[nE af,List.length_drop];rfl
   omega
  ·rw[←List.drop_drop,←af]
   exact aS
theorem V8{x:ByteArray}(hx:x.size≤1048576): ∀(f:Nat) (s line:ByteArray) (done:Bool) (pos cnt:Int) (l:List aK) (g:Nat),s.size<f→f+1≤g→Left x line done pos s→0≤cnt→cnt+f≤1900000→
 yh (b4 (qE x) g (cnt,line,true,l,done,pos))=l6 f s (cnt+1) l:=by
 intro f
 induction f with
 |zero=>intro s line done pos cnt l g h;omega
 |succ f aR=>
  intro s line done pos cnt l g aa ad aq aS bC;obtain⟨g,rfl⟩: ∃k,g=k+1+1:=⟨g-2,by omega⟩
  rcases aq with⟨fE,e0⟩|⟨fE,rfl,p,rfl,ak,BK⟩
  ·cases done with
   |false=>exact e0.elim
   |true=>
    have e0:s=line:=e0
    subst e0;unfold b4;rw[V5 ⟨aS,by omega⟩]
    by_cases ag:s=⟨#[]⟩
    ·subst ag
     have e:qF ⟨#[]⟩ (cnt+1) l= .inr l:=rfl
     rw[e];rfl
    ·rw[NM ag (by rw[Bu fE]) (by rw[Bu fE])]
     cases qF s (cnt+1) l with
     |inl r=>rfl
     |inr eW=>
      have e:l6 f ⟨#[]⟩ (cnt+1+1) eW=(eW,0,0):=by cases f<;>rfl
      show yh (b4 (qE x) (g+1) (cnt+1,⟨#[]⟩,false,eW,true,pos))=l6 f ⟨#[]⟩ (cnt+1+1) eW;rw[e];rfl
  ·have FA:aO 10 s=(line,bk x (some (p:Int)) none,true):=yb (by rw[BK,Fz]) fE
   have ag:s≠⟨#[]⟩:=fun e=>by
    subst e
    have:=congrArg List.length BK
    rw[List.length_append,List.length_cons]at this
    have aU:(⟨#[]⟩:ByteArray).data.toList.length=0:=rfl
    omega
   have nH:=Fx (c:=10) ag
   rw[FA]at nH;unfold b4;rw[V6 ⟨aS,by omega⟩ ak hx,NM ag (by rw[FA]) (by rw[FA])]
   cases qF line (cnt+1) l with
   |inl r=>rfl
   |inr eW=>
    obtain⟨V9,Wa,pos',aA,aW⟩:=NN (cnt:=cnt+1) (l:=eW) (Fz x p) ak;show yh (b4 (qE x) (g+1) (tT x p (cnt+1) eW))=l6 f (bk x (some (p:Int)) none) (cnt+1+1) eW;rw[aA];exact aR _ V9 Wa pos' (cnt+1) eW (g+1) (by dsimp only at nH;omega) (by omega) aW (by omega) (by omega)
theorem Tr{x:ByteArray}(hx:x.size≤1048576):m20 x=l6 (x.size+1) x 1 []:=by
 have af:=rS (bk x (some (0:Int)) none) 10
 rw[Bo]at af
 obtain⟨line,done,pos,aA,aW⟩:=NN (x:=x) (r:=x) (p:=0) (cnt:=0) (l:=[]) rfl (Nat.zero_le _)
 have h:=V8 hx (x.size+1) x line done pos 0 [] cn (by omega) (show _≤18446744073709551616 by omega) aW (by omega) (by omega)
 rw[←aA]at h
 have h:yh (b4 (qE x) cn (tT x 0 0 []))=l6 (x.size+1) x 1 []:=h
 rw[←h]
 unfold m20 tT
 rw[decide_eq_false (show ¬(x.size:Int)>1048576 by omega),cond_false]
 have e:jo (bk x (some (0:Int)) none) 10=eV (bk x (some (0:Int)) none) 10:=rfl
 dsimp only
 rw[e]
 show _=yh (b4 (qE x) cn (bif decide (eV (bk x (some (0:Int)) none) 10<0)then(0,bk x (some (0:Int)) none,true,[],true,(0:Int))
  else(0,bk x (some (0:Int)) (some ((0:Int)+eV (bk x (some (0:Int)) none) 10)),true,[],false,(0:Int)+(eV (bk x (some (0:Int)) none) 10+1))))
 generalize eV (bk x (some (0:Int)) none) 10=q at af⊢
 have cy:IntKind.wrap .i64 ((0:Int)+q)=0+q:=c4 _ (by omega) (by omega)
 have im:IntKind.wrap .i64 (q+1)=q+1:=c4 _ (by omega) (by omega)
 have mQ:IntKind.wrap .i64 ((0:Int)+(q+1))=0+(q+1):=c4 _ (by omega) (by omega)
 rw[cy,im,mQ]
 cases decide (q<0)<;>rfl
theorem Tw{x:ByteArray}(hx:fS x):BL x:=by
 have fZ:x.size≤6000:=hx
 unfold BL
 intro _
 refine⟨fun d=>fS d.1∧1≤d.2.1∧d.2.1+d.1.size≤7000∧(d.2.2.length:Int)≤d.2.1,fun d=>d.1.size,⟨hx,Int.le_refl _,by show(1:Int)+x.size≤7000;omega,by show((0:Nat):Int)≤1;omega⟩,show x.size<18446744073709551616 by omega,fun d hd cb=>?_⟩
 obtain⟨s,n,l⟩:=d
 obtain⟨aa,ad,aq,aS⟩:=hd
 have ad:1≤n:=ad
 have aq:n+s.size≤7000:=aq
 have aS:(l.length:Int)≤n:=aS
 have ag:=(Fy s).1 cb
 have af:=Fx (c:=10) ag
 have hc:=BD (c:=10) aa
 have e:cv s 10=((aO 10 s).1,(aO 10 s).2.1):=qy aa.l5 10
 have w:IntKind.wrap .i64 (n+1)=n+1:=c4 _ (by omega) (by omega)
 intro ay
 have dG: ∀al:List aK,(al.length:Int)≤n+1→ay (aO 10 s).2.1 al:=fun al aI=>by
  show(fS (aO 10 s).2.1∧1≤IntKind.wrap .i64 (n+1)∧IntKind.wrap .i64 (n+1)+((aO 10 s).2.1.size:Int)≤7000∧(al.length:Int)≤IntKind.wrap .i64 (n+1))∧(aO 10 s).2.1.size<s.size;rw[w];exact⟨⟨hc.2,by omega,by omega,aI⟩,af⟩
 show rZ s 10∧(_→_)∧(_→_)∧(_→_)
 refine⟨ye aa 10,fun h=>⟨Int.le_refl _,?_⟩,fun _=>?_,fun _=>⟨?_,fun _=>⟨⟨?_,?_⟩,?_⟩⟩⟩
 ·exact rT h
 ·show ay (cv s 10).2 l
  rw[e];exact dG l (by omega)
 ·show BG (cv s 10).1
  rw[e];exact VW hc.1
 ·show l.length+1≤maxLen
  unfold maxLen;omega
 ·show(l.length+1)*272≤_
  omega
 ·show ay (cv s 10).2 (l++[(m17 (cv s 10).1).1])
  rw[e];refine dG _ ?_
  rw[List.length_append];show((l.length+1:Nat):Int)≤n+1;omega
theorem ne_self{α:Type}[BEq α][LawfulBEq α](a:α):(a != a)=false:=by simp
theorem TB(l:List aK):m22 l l=true:=by
 unfold m22
 dsimp only
 rw[ne_self,cond_false]
 have H:=NF (R:=Bool) (A:=Unit) (A':=Unit) (fun _ _=>True) (Int.toNat (l.length:Int)) (b:=fun _ _=>.bn ()) (b':=fun _ _=>.bn ()) (fun i _ _ _ _=>.inr ⟨(),(),rfl,rfl,trivial⟩)
 simp only[beq_self_eq_true,xu,cond_true,Bool.not_true,cond_false]
 have: ∀(m k:Nat),bL (fun(_:Nat) (_:Unit)=>(Step.bn ():Step Bool Unit)) k m ()= .inr ():=by
  intro m
  induction m with
  |zero=>intro k;rfl
  |succ m aR=>intro k;exact aR (k+1)
 show Sum.elim _ _ (bL (fun(_:Nat) (_:Unit)=>(Step.bn ():Step Bool Unit)) 0 _ ())=true
 rw[this]
 rfl
theorem Tx(l:List aK):xt l l:=by
 unfold xt
 refine fun _=>⟨fun _ _=>True,trivial,fun i d hi _=>⟨⟨by omega,?_⟩,fun _=>trivial⟩⟩
 rw[Int.toNat_natCast]at hi
 omega
end Go.aM
