/- What accepted homes are; the check of a home is the reference's. Conditions: none. -/
import Derived.Test.YtmkpmgfieagphaaGreatDoorHLh
import Derived.Test.YtmkpmgfieagphaaGreatDoorHPn
import Derived.Test.YtmkpmgfieagphaaGreatDoorHTEk
namespace Go.aN
open Go Go.eg
theorem uo{e:Nat→Int}{b:Nat→Unit→Step Int Unit}{g:Unit→Int}{n:Nat}(ad: ∀i,i<n→b i ()=bif(e i != 0)then .ret (e i)else .bh ()):
 Sum.elim (fun r=>r) g (bm b 0 n ())=0↔(∀i,i<n→e i=0)∧g ()=0:=by
 rw[el (b':=fun i _=>bif(e i != 0)then .ret (e i)else .bh ()) (fun i _ hi=>ad i hi) fun _=>rfl,fj (p:=fun i=>e i != 0) (F:=fun i=>e i) (fun _ _=>rfl)]
 cases h:bH (fun i=>e i != 0) n with
 |none=>
  have h:=me h
  exact⟨fun ah=>⟨fun i hi=>by simpa using h i hi,ah⟩,fun ah=>ah.2⟩
 |some i=>
  obtain⟨aa,ae,_⟩:=gp h
  have ae:e i≠0:=by simpa using ae
  exact⟨fun he=>absurd he ae,fun he=>absurd (he.1 i aa) ae⟩
theorem jJ{c:Bool}{x y:Int}(hx:x≠0)(h:(bif c then x else y)=0):c=false∧y=0:=by
 cases c with
 |true=>exact absurd h hx
 |false=>exact⟨rfl,h⟩
theorem uq{x y:Int}(h:(bif(x != 0)then x else y)=0):x=0∧y=0:=by
 cases hx:(x != 0)with
 |true=>
  rw[hx]at h
  have h:x=0:=h
  rw[h]at hx;simp at hx
 |false=>
  rw[hx]at h;exact⟨by simpa using hx,h⟩
structure p4 (c:aO):Prop where
 wide:oP c=false
 attrs: ∀i,i<c.attrs.length→kY (c.attrs.getD i (aw .Attr))=0∧(bH (fun j=>decide ((c.attrs.getD j (aw .Attr)).name=(c.attrs.getD i (aw .Attr)).name)) i).isSome=false
 ZT: ∀i,i<c.commands.length→q7 c (i:Int)=0
theorem ZU{c:aO}(h:p3 c=0):p4 c:=by
 unfold p3 at h
 dsimp only at h
 obtain⟨_,h⟩:=jJ (by decide) h
 obtain⟨hw,h⟩:=jJ (by decide) h
 simp only[toNat_cast]at h
 obtain⟨aY,h⟩:=(uo (e:=fun i=>bif(kY (c.attrs.getD i (aw .Attr)) != 0)then kY (c.attrs.getD i (aw .Attr))else bif(bH (fun j=>decide ((c.attrs.getD j (aw .Attr)).name=(c.attrs.getD i (aw .Attr)).name)) i).isSome then 9 else 0) fun i hi=>by
  rw[pZ,List.length_take,Nat.min_eq_left (Nat.le_of_lt hi),CZ (fun a:Attr=>a.name)]
  cases aT:(kY (c.attrs.getD i (aw .Attr)) != 0)with
  |true=>simp only[cond_true,aT]
  |false=>
   simp only[cond_false]
   cases (bH (fun j=>decide ((c.attrs.getD j (aw .Attr)).name=(c.attrs.getD i (aw .Attr)).name)) i).isSome<;>rfl).1 h
 obtain⟨hc,_⟩:=(uo (e:=fun i=>q7 c (i:Int)) fun i hi=>rfl).1 h
 refine⟨hw,fun i hi=>?_,hc⟩
 obtain⟨aa,ae⟩:=uq (aY i hi)
 exact⟨aa,(jJ (by decide) ae).1⟩
theorem p4.enum{c:aO}(h:p4 c): ∀a∈c.attrs,a.enum.length≤64:=fun a aY=>by
 obtain⟨j,af,rfl⟩:=List.mem_iff_getElem.1 aY
 have:=(h.attrs j af).1
 rw[List.getD_eq_getElem?_getD,List.getElem?_eq_getElem af]at this
 exact Hr this
theorem ZV{q:Nat→Bool}{n:Nat}(h:(bH q n).isSome=false): ∀j,j<n→q j=false:=by
 cases hf:bH q n with
 |none=>exact me hf
 |some i=>rw[hf]at h;cases h
theorem p4.ZW{c:aO}(h:p4 c): ∀d∈c.commands,d.gq.length≤12:=fun d hd=>by
 obtain⟨j,af,rfl⟩:=List.mem_iff_getElem.1 hd
 have hw:=h.wide
 unfold oP at hw
 dsimp only at hw
 rw[toNat_cast,fj (p:=fun i=>decide ((List.length ((List.getD c.commands i (aw .Command)).gq):Int)>12)) (F:=fun _=>true) (fun i u=>by simp only[toNat_cast])]at hw
 cases hf:bH (fun i=>decide ((List.length ((List.getD c.commands i (aw .Command)).gq):Int)>12)) c.commands.length with
 |none=>
  have:=me hf j af
  rw[List.getD_eq_getElem?_getD,List.getElem?_eq_getElem af]at this
  have:=of_decide_eq_false this
  simp only[Option.getD_some]at this;omega
 |some i=>rw[hf]at hw;cases hw
theorem ZX{c:aO}{k:Nat}(h:q7 c (k:Int)=0)(aj:k<c.commands.length):
 (((c.commands.getD k (aw .Command)).param.kind=0∧uk (c.commands.getD k (aw .Command)).param=true)∨kY (c.commands.getD k (aw .Command)).param=0)∧∀i,i<(c.commands.getD k (aw .Command)).gq.length→p2 c (c.commands.getD k (aw .Command)).param ((c.commands.getD k (aw .Command)).gq.getD i (aw .cX))=0:=by
 unfold q7 at h
 simp only[toNat_cast]at h
 generalize c.commands.getD k (aw .Command)=d at h⊢
 obtain⟨_,h⟩:=jJ (by decide) h
 rw[pZ,List.length_take,Nat.min_eq_left (Nat.le_of_lt aj)]at h
 obtain⟨_,h⟩:=(uo (e:=fun i=>bif cf .eql (((c.commands.take k).getD i (aw .Command)).name) d.name then 9 else 0) fun i hi=>by
  cases cf .eql (((c.commands.take k).getD i (aw .Command)).name) d.name<;>rfl).1 h
 have gV: ∀{x:Int},x=Sum.elim (fun r=>r) (fun _=>0) (bm (fun(i9:Nat) (_:Unit)=>bif(p2 c d.param (d.gq.getD i9 (aw .cX)) != 0)then(.ret (p2 c d.param (d.gq.getD i9 (aw .cX))):Step Int Unit)else .bh ()) 0 d.gq.length ())→x=0→∀i,i<d.gq.length→p2 c d.param (d.gq.getD i (aw .cX))=0:=fun hx aJ=>by
  rw[hx]at aJ;exact((uo (e:=fun i=>p2 c d.param (d.gq.getD i (aw .cX))) fun i hi=>rfl).1 aJ).1
 cases ak:(d.param.kind==0)with
 |true=>
  rw[ak,cond_true]at h;obtain⟨aa,ae⟩:=jJ (by decide) h
  exact⟨.inl ⟨by simpa using ak,by simpa using aa⟩,gV rfl ae⟩
 |false=>
  rw[ak,cond_false]at h;obtain⟨aa,ae⟩:=uq h;exact⟨.inr aa,gV rfl ae⟩
theorem p4.par{c:aO}(h:p4 c): ∀d∈c.commands,d.param.enum.length≤64:=fun d hd=>by
 obtain⟨j,af,rfl⟩:=List.mem_iff_getElem.1 hd
 have:=(ZX (h.ZT j af) af).1
 rw[List.getD_eq_getElem?_getD,List.getElem?_eq_getElem af]at this
 simp only[Option.getD_some]at this
 rcases this with⟨_,ae⟩|ae
 ·unfold uk at ae
  simp only[Bool.and_eq_true,beq_iff_eq]at ae;omega
 ·exact Hr ae
theorem zD{l:List aO}(h:nQ l=0): ∀i,i<l.length→p4 (l.getD i (aw .aO))∧∀j,j<i→(l.getD j (aw .aO)).name≠(l.getD i (aw .aO)).name:=by
 unfold nQ at h
 dsimp only at h
 obtain⟨_,h⟩:=jJ (by decide) h
 simp only[toNat_cast]at h
 obtain⟨aY,_⟩:=(uo (e:=fun i=>bif(p3 (l.getD i (aw .aO)) != 0)then p3 (l.getD i (aw .aO))else bif(bH (fun j=>decide ((l.getD j (aw .aO)).name=(l.getD i (aw .aO)).name)) i).isSome then 9 else 0) fun i hi=>by
  rw[pZ,List.length_take,Nat.min_eq_left (Nat.le_of_lt hi),CZ (fun a:aO=>a.name)]
  cases aT:(p3 (l.getD i (aw .aO)) != 0)with
  |true=>simp only[cond_true,aT]
  |false=>
   simp only[cond_false]
   cases (bH (fun j=>decide ((l.getD j (aw .aO)).name=(l.getD i (aw .aO)).name)) i).isSome<;>rfl).1 h
 intro i hi
 obtain⟨aa,ae⟩:=uq (aY i hi)
 exact⟨ZU aa,fun j af=>of_decide_eq_false (ZV (jJ (by decide) ae).1 j af)⟩
end Go.aN
namespace Go.aN
open Go Go.eg
def C0(l:List aO):Prop:=∀i,i<l.length→∀j,j<i→(l.getD j (aw .aO)).name≠(l.getD i (aw .aO)).name
theorem zE{l:List aO}(h:nQ l=0):C0 l:=fun i hi=>(zD h i hi).2
theorem ZY{l:List aO}{x:ByteArray}:(h2 (l.map fun c=>(c.name,c)) x=none∧∀c∈l,c.name≠x)∨∃(j:Nat) (c:aO),h2 (l.map fun c=>(c.name,c)) x=some c∧l[j]? =some c∧c.name=x∧∀(i:Nat) (d:aO),i<j→l[i]? =some d→d.name≠x:=by
 induction l with
 |nil=>exact .inl ⟨rfl,by simp⟩
 |cons e r aZ=>
  by_cases he:e.name=x
  ·exact .inr ⟨0,e,by simp[h2,he],rfl,he,fun i d hi=>absurd hi (by omega)⟩
  ·rcases aZ with⟨aa,ae⟩|⟨j,c,aa,ae,au,aR⟩
   ·exact .inl ⟨by simpa[h2,he]using aa,fun c hc=>by rcases List.mem_cons.1 hc with rfl|hc;exact he;exact ae c hc⟩
   ·refine .inr ⟨j+1,c,by simpa[h2,he]using aa,by simpa using ae,au,fun i d hi hd=>?_⟩
    cases i with
    |zero=>simp at hd;subst hd;exact he
    |succ i=>exact aR i d (by omega) (by simpa using hd)
theorem p5{α:Type}{l:List α}{i:Nat}{a d:α}(h:l[i]? =some a):l.getD i d=a:=by
 rw[List.getD_eq_getElem?_getD,h];rfl
theorem Q5{α:Type}{l:List α}{i:Nat}{a:α}(h:l[i]? =some a):i<l.length:=(List.getElem?_eq_some_iff.1 h).1
theorem ZZ(l:List aO)(x:ByteArray):h2 (l.map fun c=>(c.name,c)) x=(bH (fun i=>decide ((l.getD i (aw .aO)).name=x)) l.length).map fun i=>l.getD i (aw .aO):=by
 rcases ZY (l:=l) (x:=x)with⟨aa,ae⟩|⟨j,c,aa,ae,au,aR⟩
 ·rw[aa,tY fun j af=>decide_eq_false (ae _ (zq af))]
  rfl
 ·rw[aa,wa (Q5 ae) (by rw[p5 ae];exact decide_eq_true au) fun i hi=>by
   have aq:i<l.length:=Nat.lt_trans hi (Q5 ae)
   have:=aR i _ hi (List.getElem?_eq_getElem aq)
   rw[p5 (List.getElem?_eq_getElem aq)]
   exact decide_eq_false this]
  show some c=some (l.getD j (aw .aO));rw[p5 ae]
theorem Z0{l:List aO}{c:aO}(h: ∀d∈l,d.name≠c.name):jd (l.map fun c=>(c.name,c)) c.name c=(l++[c]).map fun c=>(c.name,c):=by
 induction l with
 |nil=>rfl
 |cons e r aZ=>
  have he:e.name≠c.name:=h e (by simp)
  simp only[List.map_cons,List.cons_append,jd,if_neg he,aZ fun d hd=>h d (by simp[hd])]
theorem Q6{R A:Type}{b:Nat→A→Step R A}(s:Nat→A){n:Nat}(ad: ∀i,i<n→b i (s i)= .bh (s (i+1))): ∀(m k:Nat),k+m=n→bm b k m (s k)= .inr (s n)
 |0,k,h=>by rw[show k=n by omega];rfl
 |m+1,k,h=>by
  unfold bm;rw[ad k (by omega)]
  exact Q6 s ad m (k+1) (by omega)
theorem Z1{h:Home}(hd:C0 h.bq):kE h=h.bq.map fun c=>(c.name,c):=by
 unfold kE
 dsimp only
 rw[toNat_cast,show([]:List (ByteArray × aO))=(h.bq.take 0).map fun c=>(c.name,c)from rfl,Q6 (fun k=>(h.bq.take k).map fun c=>(c.name,c)) (n:=h.bq.length) (fun i hi=>?_) _ 0 (by omega)]
 ·show(h.bq.take h.bq.length).map _=_
  rw[List.take_length]
 ·rw[toNat_cast]
  show Step.bh (jd ((h.bq.take i).map fun c=>(c.name,c)) (h.bq.getD i (aw .aO)).name (h.bq.getD i (aw .aO)))=_;rw[Z0 fun d hm=>?_]
  ·rw[List.take_succ_eq_append_getElem hi,p5 (List.getElem?_eq_getElem hi)]
  ·obtain⟨j,af,Z2⟩:=Yv.1 hm
   have:=hd i hi j af
   rw[p5 Z2]at this;exact this
theorem look_eq{h:Home}(hd:C0 h.bq)(x:ByteArray):jK .str (kE h) x=(bH (fun i=>decide ((h.bq.getD i (aw .aO)).name=x)) h.bq.length).map fun i=>h.bq.getD i (aw .aO):=by
 rw[Z1 hd]
 exact ZZ _ _
theorem sC(h:Home)(x:ByteArray):j3 h x=match bH (fun i=>decide ((h.bq.getD i (aw .aO)).name=x)) h.bq.length with|some i=>(i:Int)|none=> -1:=by
 unfold j3
 dsimp only
 rw[toNat_cast,fj (p:=fun i=>decide ((h.bq.getD i (aw .aO)).name=x)) (F:=fun i=>(i:Int)) (fun i u=>by simp only[hZ,toNat_cast])]
 all_goals cases bH (fun i=>decide ((h.bq.getD i (aw .aO)).name=x)) h.bq.length<;>rfl
theorem Z3{h:Home}(hd:C0 h.bq)(d:bA):q8 h d=sD d (kE h):=by
 unfold q8 sD
 dsimp only
 refine congrArg (cond _ 3) ?_
 refine el (fun i a _=>?_) fun _=>rfl
 rw[look_eq hd,sC,Hw]
 unfold p0
 rw[toNat_cast]
 cases hf:bH (fun j=>decide ((h.bq.getD j (aw .aO)).name=d.bq.getD i (aw .str))) h.bq.length with
 |none=>rfl
 |some j=>
  dsimp only;rw[decide_eq_false (show ¬(j:Int)<0 by omega),toNat_cast]
  rfl
theorem Z4{q:Nat→Bool}{n:Nat}:(bH q (n+1)).isSome=((bH q n).isSome||q n):=by
 cases h:bH q n with
 |some i=>
  obtain⟨aa,ae,au⟩:=gp h;rw[wa (by omega) ae au]
  rfl
 |none=>
  have h:=me h
  cases aK:q n with
  |true=>rw[wa (Nat.lt_succ_self n) aK h];rfl
  |false=>
   rw[tY fun j af=>?_]
   ·rfl
   ·by_cases mY:j=n
    ·rw[mY];exact aK
    ·exact h j (by omega)
theorem Z5{K V:Type}[DecidableEq K](l:List (K × V))(k x:K)(v:V):h2 (jd l k v) x=if k=x then some v else h2 l x:=by
 induction l with
 |nil=>simp[jd,h2]
 |cons p r aZ=>
  obtain⟨q,w⟩:=p
  by_cases aK:q=k
  ·subst aK
   by_cases hx:q=x<;>simp[jd,h2,hx]
  ·by_cases hx:q=x
   ·subst hx
    simp[jd,h2,aK,Ne.symm aK]
   ·simp only[jd,if_neg aK,h2,if_neg hx,aZ]
theorem Q7{R A:Type}{b:Nat→A→Step R A}{c:Nat→Unit→Step R Unit}{n:Nat}(I:Nat→A→Prop)
 (h: ∀k a,k<n→I k a→(∃r,b k a= .ret r∧c k ()= .ret r)∨(∃bg,b k a= .bh bg∧c k ()= .bh ()∧I (k+1) bg)):
 ∀(m k:Nat) (a:A),k+m=n→I k a→(∃r,bm b k m a= .inl r∧bm c k m ()= .inl r)∨(∃bg,bm b k m a= .inr bg∧bm c k m ()= .inr ())
 |0,k,a,_,_=>.inr ⟨a,rfl,rfl⟩
 |m+1,k,a,aj,aY=>by
  rcases h k a (by omega) aY with⟨r,aa,ae⟩|⟨bg,aa,ae,au⟩
  ·exact .inl ⟨r,by simp only[bm,aa],by simp only[bm,ae]⟩
  ·have:=Q7 I h m (k+1) bg (by omega) au
   simpa only[bm,aa,ae]using this
theorem Z6(d:bA):wM d= !((((((decide (d.id<1))||(decide (d.id>250)))||(decide (d.oQ<0)))||(decide (d.oQ>255)))||((!d.oR)&&(d.kZ != 0)))||(d.oR&&((decide (d.kZ<4))||(decide (d.kZ>3600))))):=by
 unfold wM
 rw[Bool.eq_iff_iff]
 cases d.oR<;>simp only[cond_eq_ite]<;>split<;>simp_all<;>omega
theorem sE(h:Home):j4 h=fc h:=by
 unfold j4 fc
 rw[Q4]
 dsimp only
 cases aa:(nQ h.bq != 0)with
 |true=>rfl
 |false=>
  have hd:=zE (jc aa)
  simp only[cond_false];refine congrArg (cond _ 3) ?_
  rw[toNat_cast]
  have key:=Q7 (n:=h.a8.length) (fun k a=>∀x:Int,(h2 a x).getD false=(bH (fun j=>decide ((h.a8.getD j (aw .bA)).hk=x)) k).isSome) (b:=fun(i8:Nat) (aM:(List (Int × Bool)))=>
   bif(!(wM (h.a8.getD i8 (aw .bA))))then Step.ret (2:Int)else bif((decide ((i8:Int)>0))&&(decide ((h.a8.getD i8 (aw .bA)).id≤((List.getD h.a8 (Int.toNat (IntKind.wrap .i64 ((i8:Int)-(1:Int)))) (aw .bA)).id))))then .ret 14
   else bif((jK (.int .u64) aM (h.a8.getD i8 (aw .bA)).hk).getD false)then .ret 9 else bif(!(iA (h.a8.getD i8 (aw .bA)).room))then .ret 10 else bif(sD (h.a8.getD i8 (aw .bA)) (kE h) != 0)then .ret (sD (h.a8.getD i8 (aw .bA)) (kE h))else .bh (sF (.int .u64) aM (h.a8.getD i8 (aw .bA)).hk true))
   (c:=fun(i5:Nat) (_:Unit)=>bif(p6 h (i5:Int) != 0)then .ret (p6 h (i5:Int))else .bh ()) ?_ h.a8.length 0 ([]:List (Int × Bool)) (by omega) (fun x=>rfl)
  ·rcases key with⟨r,cg,a2⟩|⟨bg,cg,a2⟩
   ·simp only[toNat_cast]
    rw[cg,a2];rfl
   ·simp only[toNat_cast]
    rw[cg,a2];rfl
  ·intro k a aj b1
   unfold p6;dsimp only;rw[toNat_cast];generalize Z7:h.a8.getD k (aw .bA)=d;rw[Z6,Bool.not_not,q5,sz,Z3 hd];generalize ((((((decide (d.id<1))||(decide (d.id>250)))||(decide (d.oQ<0)))||(decide (d.oQ>255)))||((!d.oR)&&(d.kZ != 0)))||(d.oR&&((decide (d.kZ<4))||(decide (d.kZ>3600)))))=A
   have h1:decide ((List.getD h.a8 (Int.toNat (IntKind.wrap .i64 ((k:Int)-(1:Int)))) (aw .bA)).id≥d.id)=decide (d.id≤(List.getD h.a8 (Int.toNat (IntKind.wrap .i64 ((k:Int)-(1:Int)))) (aw .bA)).id):=rfl
   rw[h1];generalize (decide ((k:Int)>0)&&decide (d.id≤(List.getD h.a8 (Int.toNat (IntKind.wrap .i64 ((k:Int)-(1:Int)))) (aw .bA)).id))=O
   have gV:(jK (.int .u64) a d.hk).getD false=(bH (fun j=>decide ((h.a8.getD j (aw .bA)).hk=d.hk)) k).isSome:=b1 d.hk
   rw[gV,fj (p:=fun j=>decide ((h.a8.getD j (aw .bA)).hk=d.hk)) (F:=fun _=>(9:Int)) (fun i u=>by simp only[toNat_cast]<;>rfl)]
   have step: ∀x:Int,(h2 (jd (K:=Int) a d.hk true) x).getD false=(bH (fun j=>decide ((h.a8.getD j (aw .bA)).hk=x)) (k+1)).isSome:=fun x=>by
    rw[Z5,Z4,Z7]
    by_cases hx:d.hk=x
    ·rw[if_pos hx,decide_eq_true hx,Bool.or_true]
     rfl
    ·rw[if_neg hx,decide_eq_false hx,Bool.or_false]
     exact b1 x
   cases A with
   |true=>exact .inl ⟨2,rfl,rfl⟩
   |false=>
    cases O with
    |true=>exact .inl ⟨14,rfl,rfl⟩
    |false=>
     cases bH (fun j=>decide ((h.a8.getD j (aw .bA)).hk=d.hk)) k with
     |some j=>exact .inl ⟨9,rfl,rfl⟩
     |none=>
      cases valid d.room with
      |false=>exact .inl ⟨10,rfl,rfl⟩
      |true=>
       cases aT:(sD d (kE h) != 0)with
       |true=>exact .inl ⟨_,rfl,by simp only[Bool.not_true,cond_false,cond_true,aT]⟩
       |false=>exact .inr ⟨_,rfl,by simp only[Bool.not_true,cond_false,aT],step⟩
end Go.aN
namespace Go.aN
open Go Go.eg
theorem sG{h:Home}(aJ:fc h=0):nQ h.bq=0:=by
 unfold fc at aJ
 exact(uq aJ).1
theorem Z8{h:Home}(aJ:fc h=0)(x:ByteArray): ∀a∈((jK .str (kE h) x).getD (aw .aO)).attrs,a.enum.length≤64:=by
 rw[look_eq (zE (sG aJ))]
 cases hf:bH (fun i=>decide ((h.bq.getD i (aw .aO)).name=x)) h.bq.length with
 |none=>exact fun a aY=>by cases aY
 |some i=>exact(zD (sG aJ) i (gp hf).1).1.enum
theorem zF(h:Home)(x:Int):lG h x=bif(fc h != 0)then(⟨0,0,0,false,0,⟨#[]⟩,[]⟩,false)else match bH (fun i=>(h.a8.getD i (aw .bA)).id==x) h.a8.length with|some i=>(h.a8.getD i (aw .bA),true)|none=>(⟨0,0,0,false,0,⟨#[]⟩,[]⟩,false):=by
 unfold lG
 dsimp only
 rw[toNat_cast,fj (p:=fun i=>(h.a8.getD i (aw .bA)).id==x) (F:=fun i=>(h.a8.getD i (aw .bA),true)) (fun i u=>by simp only[toNat_cast])]
 all_goals refine congrArg (cond _ _) ?_
 all_goals cases bH (fun i=>(h.a8.getD i (aw .bA)).id==x) h.a8.length<;>rfl
theorem Z9{h:Home}{x:Int}(ae:(lG h x).2=true):fc h=0:=by
 rw[zF]at ae
 cases aT:(fc h != 0)with
 |true=>rw[aT]at ae;cases ae
 |false=>exact jc aT
theorem Q8(h:Home)(k:cd):C1 h k:=by
 have key: ∀v6:Int,(((!(lG h k.dev).2)||(decide (v6<0)))=false→zr ((jK .str (kE h) k.cK).getD (aw .aO)) k.attr):=fun v6 ax=>by
  simp only[Bool.or_eq_false_iff,Bool.not_eq_false']at ax;exact QW (Z8 (Z9 ax.1) _)
 exact⟨Hv _ _,fun _=>key _,fun _=>key _⟩
theorem zaa(h:Home)(q:bQ):C2 h q:=by
 unfold C2
 repeat' (first|exact Q8 _ _|exact Ho _ _|intro _|refine And.intro ?_ ?_)
theorem zab(h:Home)(x:Int)(n:ByteArray):HE h x n:=by
 refine⟨fun _ _=>True,trivial,fun i _ hi _=>⟨fun _=>⟨fun _=>?_,fun _=>trivial⟩,fun _=>⟨fun _=>?_,fun _=>trivial⟩⟩,fun _ _=>?_⟩
 all_goals
  exact fun _=>⟨fun _ _=>True,trivial,fun i _ hi _=>⟨fun _ _=>⟨by omega,by rw[toNat_cast]at hi;omega⟩,fun _=>trivial⟩,fun _ _ h=>absurd (of_decide_eq_false h) (by decide)⟩
theorem zac{c:aO}(hc:p4 c)(x:ByteArray):HF c x:=by
 refine⟨fun _ _=>True,trivial,fun i _ hi _=>⟨fun _=>?_,fun _=>trivial⟩⟩
 rw[toNat_cast]at hi
 have hm:=zq (d:=aw .Command) hi
 rw[toNat_cast]
 exact⟨Hm (by have:=hc.par _ hm;omega),Zy (by have:=hc.ZW _ hm;omega)⟩
noncomputable def sH(h:Home)(x:Int)(n:ByteArray):Nat→Bool:=fun i=>((h.a8.getD i (aw .bA)).id==x)&&hM (h.a8.getD i (aw .bA)).bq n
theorem Q9(h:Home)(x:Int)(n:ByteArray):q9 h x n=bif(bH (sH h x n) h.a8.length).isSome then(match bH (fun i=>decide ((h.bq.getD i (aw .aO)).name=n)) h.bq.length with|some i=>(h.bq.getD i (aw .aO),true)|none=>(⟨⟨#[]⟩,[],[],[]⟩,false))else(⟨⟨#[]⟩,[],[],[]⟩,false):=by
  unfold q9;dsimp only;rw[toNat_cast,toNat_cast]
  have k0: ∀v3:Int,0≤v3→(bif !(decide (v3≥0))then((⟨⟨#[]⟩,[],[],[]⟩:aO),false)else Sum.elim (fun r=>r) (fun _=>bif decide ((-1:Int)<0)then(⟨⟨#[]⟩,[],[],[]⟩,false)else(h.bq.getD (Int.toNat (-1)) (aw .aO),true))
      (bm (fun(i7:Nat) (_:Unit)=>bif(cf .eql ((List.getD h.bq (Int.toNat (i7:Int)) (aw .aO)).name) n)then(.ret (bif decide ((i7:Int)<0)then(⟨⟨#[]⟩,[],[],[]⟩,false)else(h.bq.getD (Int.toNat (i7:Int)) (aw .aO),true)):Step (aO × Bool) Unit)else .bh ()) 0 h.bq.length ()))=(match bH (fun i=>decide ((h.bq.getD i (aw .aO)).name=n)) h.bq.length with|some i=>(h.bq.getD i (aw .aO),true)|none=>(⟨⟨#[]⟩,[],[],[]⟩,false)):=fun v3 au=>by
    rw[decide_eq_true au,fj (p:=fun i=>decide ((h.bq.getD i (aw .aO)).name=n)) (F:=fun i=>(h.bq.getD i (aw .aO),true)) (fun i u=>by
      simp only[hZ,toNat_cast]
      rw[decide_eq_false (show ¬(i:Int)<0 by omega),cond_false])]
    cases bH (fun i=>decide ((h.bq.getD i (aw .aO)).name=n)) h.bq.length<;>rfl
  rw[fj (p:=sH h x n) (F:=fun _=>(match bH (fun i=>decide ((h.bq.getD i (aw .aO)).name=n)) h.bq.length with|some i=>(h.bq.getD i (aw .aO),true)|none=>(⟨⟨#[]⟩,[],[],[]⟩,false))) (fun i u=>by
    unfold sH;simp only[toNat_cast]
    cases (h.a8.getD i (aw .bA)).id==x with
    |false=>rfl
    |true=>
      simp only[cond_true,Bool.true_and]
      cases hM (h.a8.getD i (aw .bA)).bq n with
      |false=>rfl
      |true=>
        simp only[cond_true]
        have:=k0 (i:Int) (by omega)
        simp only[toNat_cast]at this
        rw[this])]
  cases bH (sH h x n) h.a8.length<;>rfl
theorem zad{h:Home}{x:Int}{n:ByteArray}(aJ:fc h=0)(ae:(q9 h x n).2=true):p4 (q9 h x n).1:=by
 rw[Q9]at ae⊢
 cases aa:(bH (sH h x n) h.a8.length).isSome with
 |false=>rw[aa]at ae;cases ae
 |true=>
  rw[aa]at ae;simp only[cond_true]at ae⊢
  cases hf:bH (fun i=>decide ((h.bq.getD i (aw .aO)).name=n)) h.bq.length with
  |none=>rw[hf]at ae;cases ae
  |some i=>exact(zD (sG aJ) i (gp hf).1).1
theorem zae{h:Home}(aJ:fc h=0)(q:bQ):HG h q:=by
 refine⟨zab _ _ _,fun ae=>⟨zac (zad aJ ?_) _,fun _ _=>Ho _ _⟩⟩
 cases au:(q9 h q.key.dev q.key.cK).2 with
 |true=>rfl
 |false=>rw[au]at ae;cases ae
theorem Ra{h:Home}(aJ:fc h=0)(q:bQ):C3 h q:=by
 unfold C3
 repeat' (first|exact zaa _ _|exact zae aJ _|exact q4 _|intro _|refine And.intro ?_ ?_)
theorem zaf(h:Home)(q:bQ):HH h q:=by
 refine⟨Hu h,fun aJ _ _=>⟨fun _ _=>Ra (jc aJ) q,fun _ _=>Ra (jc aJ) q⟩⟩
end Go.aN
namespace Go.aN
open Go Go.eg
theorem C4(a:Attr):ur a:=by
 unfold ur
 repeat' (first|exact trivial|exact oN _|(refine Exists.intro (fun _ _=>True) (And.intro trivial ?_);intro i _ hi _;refine⟨oN _,fun _=>⟨sA (by omega) (by rw[toNat_cast]at hi;omega),fun _=>trivial⟩⟩)|intro _|refine And.intro ?_ ?_)
theorem Rb(x y:List ByteArray):C5 x y:=QX x y
theorem zag(a b:Attr):HI a b:=fun _=>Rb _ _
theorem Rc(c:aO)(x:ByteArray):C6 c x:=by
 intro h
 have h:decide (oO c x<0)=false:=h
 show 0≤oO c x∧oO c x<(c.attrs.length:Int)
 rw[HC]at h⊢
 cases hf:bH (fun i=>decide ((c.attrs.getD i (aw .Attr)).name=x)) c.attrs.length with
 |none=>rw[hf]at h;cases h
 |some i=>
  have:=(gp hf).1
  dsimp only;omega
theorem HJ(a:Attr)(v:c6):zG a v:=⟨C4 a,fun _=>C4 a⟩
theorem zah(x:cX)(a b:Attr):C7 x a b:=by
 unfold C7
 repeat' (first|exact HJ _ _|exact Rb _ _|intro _|refine And.intro ?_ ?_)
theorem zai(c:aO)(a:Attr)(x:cX):C8 c a x:=by
 unfold C8
 repeat' (first|exact Rc _ _|exact zah _ _ _|intro _|refine And.intro ?_ ?_)
theorem zaj{c:aO}{k:Nat}(aj:k<c.commands.length)(ad:k<1000000):HK c (k:Int):=by
 refine⟨⟨by omega,by omega⟩,oN _,fun _=>⟨⟨by omega,by omega⟩,⟨fun _ _=>True,trivial,fun i _ hi _=>⟨⟨by omega,?_⟩,fun _=>trivial⟩,fun _ _=>?_⟩⟩⟩
 ·rw[toNat_cast]at hi
  omega
 ·repeat' (first|exact trivial|exact C4 _|exact zag _ _|exact zai _ _ _|intro _|refine And.intro ?_ ?_|refine Exists.intro (fun _ _=>True) (And.intro trivial ?_))
theorem zak{c:aO}(h:oP c=false):c.commands.length≤12∧c.events.length≤12:=by
 unfold oP at h
 dsimp only at h
 rw[toNat_cast,fj (p:=fun i=>decide ((List.length ((List.getD c.commands i (aw .Command)).gq):Int)>12)) (F:=fun _=>true) (fun i u=>by simp only[toNat_cast])]at h
 cases hf:bH (fun i=>decide ((List.length ((List.getD c.commands i (aw .Command)).gq):Int)>12)) c.commands.length with
 |none=>
  rw[hf]at h;simp only[Bool.or_eq_false_iff,decide_eq_false_iff_not]at h;omega
 |some i=>rw[hf]at h;cases h
theorem zal(c:aO):HL c:=by
 refine⟨oN _,fun _ hw=>?_⟩
 rw[Q3]at hw
 obtain⟨aa,ae⟩:=zak hw
 refine⟨fun _ _=>True,trivial,fun i _ hi _=>⟨C4 _,fun _ _=>trivial⟩,fun _ _=>⟨fun _ _=>True,trivial,fun i _ hi _=>⟨zaj (by rw[toNat_cast]at hi;omega) (by rw[toNat_cast]at hi;omega),fun _=>trivial⟩,fun _ _=>⟨fun _ _=>True,trivial,fun i _ hi _=>⟨oN _,fun _=>⟨⟨by omega,by rw[toNat_cast]at hi;omega⟩,⟨fun _ _=>True,trivial,fun j _ af _=>⟨⟨by omega,?_⟩,fun _=>trivial⟩,fun _ _=>trivial⟩⟩⟩⟩⟩⟩
 rw[toNat_cast]at hi af
 omega
theorem zam(l:List aO):HM l:=by
 refine fun aq=>⟨fun _ _=>True,trivial,fun i _ hi _=>⟨zal _,fun _=>⟨⟨by omega,?_⟩,⟨fun _ _=>True,trivial,fun j _ af _=>⟨⟨by omega,?_⟩,fun _=>trivial⟩,fun _ _=>trivial⟩⟩⟩⟩
 ·have aq:=of_decide_eq_false aq
  rw[toNat_cast]at hi;omega
 ·rw[toNat_cast]at hi af
  omega
theorem HN{h:Home}(ad:h.bq.length≤1000000)(x:ByteArray):zH h x:=by
 show 0≤(h.bq.length:Int)∧(h.bq.length:Int)<9223372036854775808
 omega
theorem zan{h:Home}{x:ByteArray}(ax:decide (j3 h x<0)=false):0≤j3 h x∧j3 h x<(h.bq.length:Int):=by
 rw[sC]at ax⊢
 cases hf:bH (fun i=>decide ((h.bq.getD i (aw .aO)).name=x)) h.bq.length with
 |none=>rw[hf]at ax;cases ax
 |some i=>
  have:=(gp hf).1
  dsimp only;omega
theorem zao{h:Home}(ad:h.bq.length≤1000000)(d:bA):HO h d:=
 fun _=>⟨fun _ _=>True,trivial,fun _ _ _ _=>⟨HN ad _,fun ax _=>⟨zan ax,trivial⟩⟩⟩
theorem zap{h:Home}(ad:h.bq.length≤1000000){k:Nat}(aj:k<h.a8.length)(Re:k<1000000):HP h (k:Int):=by
 refine⟨⟨by omega,by omega⟩,fun _=>⟨fun ax=>?_,fun _=>⟨⟨by omega,by omega⟩,⟨fun _ _=>True,trivial,fun i _ hi _=>⟨⟨by omega,by rw[toNat_cast]at hi;omega⟩,fun _=>trivial⟩,fun _ _=>⟨oN _,fun _=>zao ad _⟩⟩⟩⟩⟩
 have ax:=of_decide_eq_true ax
 show 0≤IntKind.wrap .i64 ((k:Int)-1)∧IntKind.wrap .i64 ((k:Int)-1)<(h.a8.length:Int)
 rw[hD (by omega) (by omega)]
 omega
theorem zaq{l:List aO}(h:nQ l=0):l.length≤256:=by
 unfold nQ at h
 dsimp only at h
 have:=of_decide_eq_false (jJ (by decide) h).1
 omega
theorem wN(h:Home):sI h:=by
 refine⟨zam _,fun aa au=>⟨fun _ _=>True,trivial,fun i _ hi _=>⟨?_,fun _=>trivial⟩⟩⟩
 have aa:=jc aa
 rw[Q4]at aa
 have au:=of_decide_eq_false au
 rw[toNat_cast]at hi
 exact zap (by have:=zaq aa;omega) hi (by omega)
theorem HQ(h:Home)(x:Int):hl h x=match bH (fun i=>(h.a8.getD i (aw .bA)).id==x) h.a8.length with|some i=>(i:Int)|none=> -1:=by
 unfold hl
 dsimp only
 rw[toNat_cast,fj (p:=fun i=>(h.a8.getD i (aw .bA)).id==x) (F:=fun i=>(i:Int)) (fun i u=>by simp only[toNat_cast])]
 all_goals cases bH (fun i=>(h.a8.getD i (aw .bA)).id==x) h.a8.length<;>rfl
theorem C9{h:Home}(aJ:fc h=0): ∀k,k<h.a8.length→p6 h (k:Int)=0:=by
 rw[←sE]at aJ
 unfold j4 at aJ
 dsimp only at aJ
 obtain⟨_,aJ⟩:=uq aJ
 obtain⟨_,aJ⟩:=jJ (by decide) aJ
 simp only[toNat_cast]at aJ
 exact((uo (e:=fun i=>p6 h (i:Int)) fun i hi=>rfl).1 aJ).1
theorem Da{h:Home}(aJ:fc h=0):h.a8.length≤20:=by
 unfold fc at aJ
 dsimp only at aJ
 obtain⟨_,aJ⟩:=uq aJ
 have:=of_decide_eq_false (jJ (by decide) aJ).1
 omega
theorem Db{h:Home}{k:Nat}(ad:k<1000000)(aT:p6 h (k:Int)=0):(0<k→(h.a8.getD (k-1) (aw .bA)).id<(h.a8.getD k (aw .bA)).id)∧q8 h (h.a8.getD k (aw .bA))=0:=by
 unfold p6 at aT
 simp only[toNat_cast]at aT
 obtain⟨_,aT⟩:=jJ (by decide) aT
 obtain⟨ao,aT⟩:=jJ (by decide) aT
 obtain⟨_,aT⟩:=(uo (e:=fun i=>bif((h.a8.getD i (aw .bA)).hk==(h.a8.getD k (aw .bA)).hk)then 9 else 0) fun i hi=>by
  cases ((h.a8.getD i (aw .bA)).hk==(h.a8.getD k (aw .bA)).hk)<;>rfl).1 aT
 obtain⟨_,aT⟩:=jJ (by decide) aT
 refine⟨fun aj=>?_,aT⟩
 rw[decide_eq_true (show(k:Int)>0 by omega),Bool.true_and]at ao
 have ao:=of_decide_eq_false ao
 rw[hD (by omega) (by omega),show((k:Int)-1).toNat=k-1 by omega]at ao
 omega
theorem HR{h:Home}(aJ:fc h=0): ∀j i,j<h.a8.length→i<j→(h.a8.getD i (aw .bA)).id<(h.a8.getD j (aw .bA)).id
 |0,_,_,h=>by omega
 |j+1,i,af,hi=>by
  have aq:=Da aJ
  have aa:=(Db (by omega) (C9 aJ (j+1) af)).1 (by omega)
  rw[Nat.add_sub_cancel]at aa
  by_cases oS:i=j
  ·rw[oS];exact aa
  ·have:=HR aJ j i (by omega) (by omega)
   omega
theorem Rf{A:Type}{b:Nat→A→Step Int A}{g:A→Int}{n:Nat}(ad: ∀i a,(∃r,b i a= .ret r∧r≠0)∨∃bg,b i a= .bh bg): ∀m k a,k+m=n→Sum.elim (fun r=>r) g (bm b k m a)=0→∀i,k≤i→i<n→∃a bg,b i a= .bh bg
 |0,k,_,aj,_,i,aa,ae=>by omega
 |m+1,k,a,aj,aJ,i,aa,ae=>by
  unfold bm at aJ
  rcases ad k a with⟨r,ag,b9⟩|⟨bg,aY⟩
  ·rw[ag]at aJ
   exact absurd aJ b9
  ·rw[aY]at aJ
   by_cases ra:i=k
   ·subst ra
    exact⟨a,bg,aY⟩
   ·exact Rf ad m (k+1) bg (by omega) aJ i (by omega) ae
theorem zar{h:Home}{d:bA}(aT:q8 h d=0): ∀i,i<d.bq.length→∃j,bH (fun j=>decide ((h.bq.getD j (aw .aO)).name=d.bq.getD i (aw .str))) h.bq.length=some j:=by
 unfold q8 at aT
 simp only[toNat_cast]at aT
 obtain⟨_,aT⟩:=jJ (by decide) aT
 intro i hi
 obtain⟨a,bg,aY⟩:=Rf (n:=d.bq.length) (fun i a=>by
  cases decide (j3 h (d.bq.getD i (aw .str))<0)with
  |true=>exact .inl ⟨8,rfl,by decide⟩
  |false=>
   cases decide (q6 d.bq (d.bq.getD i (aw .str))<(i:Int))with
   |true=>exact .inl ⟨9,rfl,by decide⟩
   |false=>exact .inr ⟨_,rfl⟩) _ 0 _ (by omega) aT i (by omega) hi
 rw[sC]at aY
 cases hf:bH (fun j=>decide ((h.bq.getD j (aw .aO)).name=d.bq.getD i (aw .str))) h.bq.length with
 |some j=>exact⟨j,rfl⟩
 |none=>
  rw[hf]at aY;cases aY
theorem zI{h:Home}(aJ:fc h=0){i:Nat}(hi:i<h.a8.length){n:ByteArray}(hm:decide (lF (h.a8.getD i (aw .bA)).bq n<0)=false): ∃j,bH (fun j=>decide ((h.bq.getD j (aw .aO)).name=n)) h.bq.length=some j:=by
 have aq:=Da aJ
 have hc:=zar (Db (by omega) (C9 aJ i hi)).2
 rw[CU]at hm
 cases hf:bH (fun k=>decide (n=(h.a8.getD i (aw .bA)).bq.getD k (aw .str))) (h.a8.getD i (aw .bA)).bq.length with
 |none=>rw[hf]at hm;cases hm
 |some k=>
  obtain⟨aa,ae,_⟩:=gp hf;rw[of_decide_eq_true ae];exact hc k aa
theorem Rg{h:Home}(ad:h.bq.length≤1000000)(hd:h.a8.length≤1000000)(x:Int)(n:ByteArray):Dc h x n:=by
 refine⟨⟨by omega,by omega⟩,?_⟩
 intro v4
 cases ax:v4 with
 |true=>exact⟨fun _=>⟨(fun h=>by cases h),fun _ h=>(by cases h),fun h=>(by cases h)⟩,fun h=>by cases h⟩
 |false=>
  have ax:decide (hl h x<0)=false:=ax
  have ag:0≤hl h x∧hl h x<(h.a8.length:Int):=by
   rw[HQ]at ax⊢
   cases hf:bH (fun i=>(h.a8.getD i (aw .bA)).id==x) h.a8.length with
   |none=>rw[hf]at ax;cases ax
   |some i=>
    have:=(gp hf).1
    dsimp only;omega
  refine⟨(fun h=>by cases h),fun _=>⟨wN h,fun eH=>ag,fun eH gm=>?_,fun eH gm=>?_⟩⟩
  ·rw[eH]at gm
   cases gm
  ·refine⟨HN ad _,?_⟩
   have eH:(false||(j4 h != 0))=false:=eH
   rw[eH]at gm
   have aJ:j4 h=0:=by simpa using eH
   rw[sE]at aJ
   have gm:decide (q6 (h.a8.getD (Int.toNat (hl h x)) (aw .bA)).bq n<0)=false:=gm
   rw[Hw]at gm;obtain⟨j,af⟩:=zI aJ (i:=Int.toNat (hl h x)) (by omega) gm
   show 0≤j3 h n∧j3 h n<(h.bq.length:Int);rw[sC,af]
   have:=(gp af).1
   dsimp only;omega
theorem Rh{h:Home}(ad:h.bq.length≤1000000)(hd:h.a8.length≤1000000)(k:cd):Dd h k:=⟨Rg ad hd _ _,fun _=>Rc _ _⟩
theorem zas{h:Home}(ad:h.bq.length≤1000000)(hd:h.a8.length≤1000000)(q:bQ):HS h q:=⟨Rh ad hd _,fun _ _ _=>HJ _ _⟩
theorem zat{h:Home}(ad:h.bq.length≤1000000)(hd:h.a8.length≤1000000)(q:bQ):HT h q:=⟨Rg ad hd _ _,fun _ _ _=>HJ _ _⟩
theorem Yi{h:Home}(ad:h.bq.length≤1000000)(hd:h.a8.length≤1000000)(q:bQ):zJ h q:=by
 unfold zJ
 repeat' (first|exact trivial|exact wN _|exact zas ad hd _|exact zat ad hd _|exact oN _|intro _|refine And.intro ?_ ?_)
end Go.aN
namespace Go.aN
open Go Go.eg
theorem Ri(h:Home)(x:Int)(n:ByteArray):sJ h x n=bif(fc h != 0)then(⟨⟨#[]⟩,[],[],[]⟩,false)else match bH (fun i=>(h.a8.getD i (aw .bA)).id==x) h.a8.length with
 |none=>(⟨⟨#[]⟩,[],[],[]⟩,false)
 |some i=>bif decide (lF (h.a8.getD i (aw .bA)).bq n<0)then(⟨⟨#[]⟩,[],[],[]⟩,false)else(h.bq.getD (Int.toNat (j3 h n)) (aw .aO),true):=by
 unfold sJ
 rw[HQ,sE]
 dsimp only
 cases hf:bH (fun i=>(h.a8.getD i (aw .bA)).id==x) h.a8.length with
 |none=>
  cases fc h != 0<;>rfl
 |some i=>
  dsimp only;rw[decide_eq_false (show ¬(i:Int)<0 by omega),toNat_cast,Hw]
  cases fc h != 0<;>rfl
theorem Rj{q:Nat→Bool}{n i:Nat}(hi:i<n)(aK:q i=true):(bH q n).isSome=true:=by
 cases h:bH q n with
 |none=>rw[me h i hi]at aK;cases aK
 |some j=>rfl
theorem HU(l:List ByteArray)(x:ByteArray):hM l x= !decide (lF l x<0):=by
 unfold hM
 by_cases h:lF l x<0
 ·rw[decide_eq_true h]
  exact decide_eq_false (by omega)
 ·rw[decide_eq_false h]
  exact decide_eq_true (by omega)
theorem zau{h:Home}(aJ:fc h=0){i j:Nat}(hi:i<h.a8.length)(af:j<h.a8.length)(he:(h.a8.getD i (aw .bA)).id=(h.a8.getD j (aw .bA)).id):i=j:=by
 rcases Nat.lt_trichotomy i j with aa|aa|aa
 ·have:=HR aJ j i af aa
  omega
 ·exact aa
 ·have:=HR aJ i j hi aa
  omega
theorem zav{h:Home}(aJ:fc h=0)(x:Int)(n:ByteArray):sJ h x n=q9 h x n:=by
 rw[Ri,Q9,aJ]
 show(match bH (fun i=>(h.a8.getD i (aw .bA)).id==x) h.a8.length with
  |none=>((⟨⟨#[]⟩,[],[],[]⟩:aO),false)
  |some i=>bif decide (lF (h.a8.getD i (aw .bA)).bq n<0)then((⟨⟨#[]⟩,[],[],[]⟩:aO),false)else(h.bq.getD (Int.toNat (j3 h n)) (aw .aO),true))=_
 cases hf:bH (fun i=>(h.a8.getD i (aw .bA)).id==x) h.a8.length with
 |none=>
  rw[tY fun j af=>?_]
  ·rfl
  ·have:=me hf j af
   unfold sH;rw[this];rfl
 |some i=>
  obtain⟨aa,ae,_⟩:=gp hf
  have ae:(h.a8.getD i (aw .bA)).id=x:=by simpa using ae
  dsimp only
  cases hm:decide (lF (h.a8.getD i (aw .bA)).bq n<0)with
  |true=>
   rw[tY fun j af=>?_]
   ·rfl
   ·unfold sH
    cases hx:(h.a8.getD j (aw .bA)).id==x with
    |false=>rfl
    |true=>
     have hx:(h.a8.getD j (aw .bA)).id=x:=by simpa using hx
     obtain rfl:=zau aJ af aa (by rw[hx,ae])
     rw[HU,hm];rfl
  |false=>
   obtain⟨j,af⟩:=zI aJ aa hm;rw[Rj aa (by unfold sH;rw[ae,HU,hm];simp),sC,af]
   rfl
theorem find_eq(h:Home)(k:cd):uu h k=uv h k:=by
 unfold uu uv
 rw[Ri,zF]
 cases aT:(fc h != 0)with
 |true=>rfl
 |false=>
  have aJ:=jc aT
  simp only[cond_false]
  cases hf:bH (fun i=>(h.a8.getD i (aw .bA)).id==k.dev) h.a8.length with
  |none=>rfl
  |some i=>
   obtain⟨aa,_,_⟩:=gp hf;unfold p0;simp only
   cases hm:decide (lF (h.a8.getD i (aw .bA)).bq k.cK<0)with
   |true=>rfl
   |false=>
    obtain⟨j,af⟩:=zI aJ aa hm;rw[look_eq (zE (sG aJ)),sC,af];simp only[cond_false,Option.map_some,Option.getD_some,toNat_cast,Q2,Q1,Bool.not_true,Bool.or_false]
    cases bH (fun i=>decide (((h.bq.getD j (aw .aO)).attrs.getD i (aw .Attr)).name=k.attr)) (h.bq.getD j (aw .aO)).attrs.length<;>rfl
theorem zaw(h:Home)(q:bQ):De h q=Df h q:=by
 unfold De Df
 simp only[find_eq,HA]
theorem zax(c:aO)(x:ByteArray):zK c x=zL c x:=by
 unfold zK zL
 exact el (fun _ _ _=>rfl) fun _=>rfl
theorem zay{h:Home}(aJ:fc h=0)(q:bQ):Dg h q=Dh h q:=by
 unfold Dg Dh
 simp only[zav aJ,HA,zax]
theorem zaz{q:bQ}(aj:1≤q.kind∧q.kind≤7):(bif q.kind==(mf q).kind then bif q.dO==(mf q).dO then bif q.key.dev==(mf q).key.dev then bif et q.key.cK (mf q).key.cK then bif et q.key.attr (mf q).key.attr then bif et q.name (mf q).name then bif q.value.kind==(mf q).value.kind then bif q.value.n==(mf q).value.n then bif et q.value.s (mf q).value.s then et q.text (mf q).text else false else false else false else false else false else false else false else false else false)=wO q:=by
 obtain⟨kind,dO,⟨dev,eX,at_⟩,name,⟨zlO,zlP,vs⟩,text⟩:=q
 have aj:kind=1∨kind=2∨kind=3∨kind=4∨kind=5∨kind=6∨kind=7:=by
  have aa:1≤kind∧kind≤7:=aj
  omega
 rcases aj with rfl|rfl|rfl|rfl|rfl|rfl|rfl
 all_goals
  rw[Bool.eq_iff_iff];simp[mf,wO,hZ,CT,tX]
  try grind
theorem zaA(h:Home)(q:bQ):uw h q=oT h q:=by
 unfold uw oT zM zN
 rw[sE]
 dsimp only
 cases aT:(fc h != 0)with
 |true=>rfl
 |false=>
  have aJ:=jc aT
  simp only[cond_false]
  cases aj:((decide (q.kind<1))||(decide (q.kind>7)))with
  |true=>rfl
  |false=>
   have rb:1≤q.kind∧q.kind≤7:=by
    simp only[Bool.or_eq_false_iff,decide_eq_false_iff_not]at aj;omega
   rw[zaz rb];simp only[cond_false]
   cases ((decide (q.dO<0))||(decide (q.dO>1099511627776)))with
   |true=>rfl
   |false=>
    cases wO q with
    |false=>rfl
    |true=>
     have: ∀z:Int,z=bif(z != 0)then z else 0:=fun z=>by
      cases aT:(z != 0)with
      |true=>rfl
      |false=>exact jc aT
     refine Eq.trans ?_ (this (zO h q))
     unfold zO;simp only[zaw,zay aJ,q5,sz]
     cases q.kind==1<;>rfl
end Go.aN
namespace Go.aN
open Go Go.eg
theorem Di{b:ByteArray}{a c:Option Int}:(kF b a c).size≤b.size:=by
 cases a<;>cases c<;>simp only[kF,ByteArray.size_extract]<;>omega
theorem Rk(x:ByteArray)(z:Int): ∃n:Nat,dP x z=(n:Int)∧n<256:=⟨_,rfl,UInt8.toNat_lt _⟩
theorem zaB{R A B:Type}{Q:B→Prop}{f:R→B}{g:A→B}{l:R⊕A}(aa: ∀r,l= .inl r→Q (f r))(ae: ∀a,l= .inr a→Q (g a)):Q (Sum.elim f g l):=by
 cases l with
 |inl r=>exact aa r rfl
 |inr a=>exact ae a rfl
theorem zaC{R A:Type}{b:A→Step R A}{Q:R→Prop}(h: ∀a r,b a= .ret r→Q r): ∀(n:Nat) (a:A) (r:R),cJ b n a= .inl r→Q r:=by
 intro n
 induction n with
 |zero=>intro a r h;simp[cJ]at h
 |succ n aZ=>
  intro a r ag;unfold cJ at ag
  split at ag
  ·rename_i eY ad
   cases ag;exact h _ _ ad
  ·cases ag
  ·exact aZ _ _ ag
theorem zaD{R A:Type}{b:A→Step R A}{I:A→Prop}(h: ∀a,I a→(∀bg,b a= .bh bg→I bg)∧∀bg,b a= .cz bg→I bg): ∀(n:Nat) (a bg:A),I a→cJ b n a= .inr bg→I bg:=by
 intro n
 induction n with
 |zero=>intro a bg b1 h;simp[cJ]at h;exact h ▸ b1
 |succ n aZ=>
  intro a bg b1 ag;unfold cJ at ag
  split at ag
  ·cases ag
  ·rename_i a2 ad
   cases ag;exact(h a b1).2 _ ad
  ·rename_i a2 ad
   exact aZ _ _ ((h a b1).1 _ ad) ag
theorem Rl(z:Int):zP z:=by
 unfold zP
 decide
theorem HV(l:List Int)(v:Int):(List.append l [v]).length=l.length+1:=by
 show(l++[v]).length=_
 rw[List.length_append]
 rfl
theorem zaE{x:ByteArray}(hx:fF x):Dj x:=by
 unfold fF at hx
 unfold Dj
 intro v1 h
 have h:(bn .rem .i64 (x.size:Int) 2 != 0)=false:=h
 have h:(x.size:Int).tmod 2=0:=by simpa[bn]using h
 have aK:bn .quo .i64 (x.size:Int) 2=((x.size/ 2:Nat):Int):=by
  show IntKind.wrap .i64 ((x.size:Int).tdiv 2)=_;rw[Int.tdiv_eq_ediv_of_nonneg (by omega),gx _ (by omega) (by omega)]
  omega
 refine⟨?_,fun d=>0≤d.1∧d.1≤(x.size:Int)∧d.1%2=0∧(d.2.length:Int)≤d.1,fun d=>x.size-d.1.toNat,⟨Int.le_refl _,by show(0:Int)≤_;omega,rfl,Int.le_refl _⟩,?_,?_⟩
 ·show 0≤(0:Int)∧(0:Int)≤bn .quo .i64 (x.size:Int) 2∧bn .quo .i64 (x.size:Int) 2≤(maxLen:Int)∧(1:Int)*bn .quo .i64 (x.size:Int) 2≤281474976710656
  rw[aK];unfold maxLen;omega
 ·show x.size-Int.toNat 0<18446744073709551616
  omega
 ·intro d0 hd
  obtain⟨d1,d2,d3,d4⟩:=hd;intro bM
  have bM:d0.1<(x.size:Int):=of_decide_eq_true bM
  rw[Int.tmod_eq_emod_of_nonneg (by omega)]at h
  have cP:IntKind.wrap .i64 (d0.1+1)=d0.1+1:=gx _ (by omega) (by omega)
  have dC:IntKind.wrap .i64 (d0.1+2)=d0.1+2:=gx _ (by omega) (by omega)
  refine⟨⟨d1,bM⟩,?_,Rl _,Rl _,fun _=>⟨⟨?_,?_⟩,⟨?_,?_,?_,?_⟩,?_⟩⟩
  ·show 0≤IntKind.wrap .i64 (d0.1+1)∧IntKind.wrap .i64 (d0.1+1)<_
   rw[cP];omega
  ·show d0.2.length+1≤maxLen
   unfold maxLen;omega
  ·show(d0.2.length+1)*1≤_
   omega
  ·show 0≤IntKind.wrap .i64 (d0.1+2)
   rw[dC];omega
  ·show IntKind.wrap .i64 (d0.1+2)≤_
   rw[dC];omega
  ·show IntKind.wrap .i64 (d0.1+2)%2=0
   rw[dC];omega
  ·show((List.append d0.2 [_]).length:Int)≤IntKind.wrap .i64 (d0.1+2)
   rw[dC,HV];omega
  ·show x.size-(IntKind.wrap .i64 (d0.1+2)).toNat<x.size-d0.1.toNat
   rw[dC];omega
theorem HW{x:ByteArray}(hx:fF x):(jL x).1.size≤x.size+1:=by
 unfold fF at hx
 unfold jL
 dsimp only
 cases ((bn .rem .i64 (x.size:Int) (2:Int)) != 0)with
 |true=>exact Nat.zero_le _
 |false=>
  simp only[cond_false];refine zaB (Q:=fun r:ByteArray × Int=>r.1.size≤x.size+1) (fun r ag=>?_) (fun c hc=>?_)
  ·have:r=(⟨#[]⟩,4):=by
    refine zaC (Q:=fun r=>r=(⟨#[]⟩,4)) ?_ _ _ _ ag
    intro a r h;revert h;simp only[cond_eq_ite]
    repeat' split
    ·intro h;cases h;rfl
    ·intro h;cases h
    ·intro h;cases h
   rw[this];exact Nat.zero_le _
  ·have:0≤c.1∧c.1≤(x.size:Int)+1∧(c.2.length:Int)≤c.1:=by
    refine zaD (I:=fun c:Int × List Int=>0≤c.1∧c.1≤(x.size:Int)+1∧(c.2.length:Int)≤c.1) ?_ _ _ _ ⟨Int.le_refl _,by show(0:Int)≤_;omega,Int.le_refl _⟩ hc
    intro a aY;obtain⟨cg,a2,a3⟩:=aY
    cases bM:decide (a.1<(x.size:Int))with
    |false=>
     simp only[cond_false];refine⟨fun bg h=>(by cases h),fun bg h=>?_⟩
     cases h;exact⟨cg,a2,a3⟩
    |true=>
     have bM:=of_decide_eq_true bM
     simp only[cond_true]
     have dC:IntKind.wrap .i64 (a.1+2)=a.1+2:=gx _ (by omega) (by omega)
     rw[dC];simp only[cond_eq_ite]
     split
     ·exact⟨fun bg h=>(by cases h),fun bg h=>(by cases h)⟩
     ·refine⟨fun bg h=>?_,fun bg h=>(by cases h)⟩
      cases h;refine⟨?_,?_,?_⟩
      ·show 0≤a.1+2;omega
      ·show a.1+2≤_;omega
      ·show((List.append a.2 [_]).length:Int)≤a.1+2
       rw[HV];omega
   show(bytesOf c.2).size≤_;rw[ua];omega
theorem fF.str{x:ByteArray}(h:fF x){a b:Option Int}:fF (kF x a b):=by
 unfold fF at h⊢
 have:=Di (b:=x) (a:=a) (c:=b)
 omega
theorem zaF: ∀n:Nat,n<256→(0≤bn .shr .u8 (n:Int) 4∧bn .shr .u8 (n:Int) 4<16)∧(0≤bn .and .u8 (n:Int) 15∧bn .and .u8 (n:Int) 15<16)∧(0≤bn .quo .u8 (n:Int) 16∧bn .quo .u8 (n:Int) 16<16)∧(0≤bn .rem .u8 (n:Int) 16∧bn .rem .u8 (n:Int) 16<16):=by decide+kernel
theorem zaG{d l:List Int}{k:Nat}(hd:d.length≤2*k)(aq:l.length≤2)(aj:k<1000001):(List.length d+List.length l≤maxLen∧(List.length d+List.length l)*1≤140737488355328)∧(List.append d l).length≤2*(k+1):=by
 refine⟨⟨by unfold maxLen;omega,by omega⟩,?_⟩
 show(d++l).length≤_
 rw[List.length_append]
 omega
theorem zaH{x:ByteArray}(h:x.size≤1000000):HX x:=by
 refine⟨⟨by omega,by omega⟩,fun i d=>d.length≤2*i,Nat.zero_le _,fun i d hi hd=>?_⟩
 have hi:i<x.size:=by rwa[Int.toNat_natCast]at hi
 obtain⟨n,hn,ad⟩:=Rk x (i:Int)
 obtain⟨_,_,gW,gz⟩:=zaF n ad
 rw[hn]
 exact⟨gW,gz,zaG hd (Nat.le_refl _) (by omega)⟩
def je(x:ByteArray):Prop:=x.size≤30000
theorem je.sK{x:ByteArray}(h:je x):fF x:=by unfold je at h;unfold fF;omega
theorem wP(a b:ByteArray):ByteArray.size (ByteArray.append a b)=a.size+b.size:=ByteArray.size_append
theorem zaI{x:ByteArray}(h:x.size≤4000000):HY x:=by
 show 0≤(x.size:Int)∧(x.size:Int)<9223372036854775808
 omega
theorem zaJ(n:Int){x:ByteArray}(h:x.size≤2000000):Dk n x:=by
 unfold Dk
 simp only[wP,ua,List.length_cons,List.length_nil]
 refine⟨by omega,by omega,zaI ?_⟩
 simp only[wP,ua,List.length_cons,List.length_nil]
 omega
theorem zaK(n:Int){x:ByteArray}(h:x.size≤1000000):HZ n x:=by
 intro aR
 have aR:=of_decide_eq_false aR
 have ax:IntKind.wrap .i64 ((x.size:Int)-4)=(x.size:Int)-4:=hD (by omega) (by omega)
 rw[ax]
 have ai:=Di (b:=x) (a:=none) (c:=some ((x.size:Int)-4))
 refine⟨⟨by omega,by omega⟩,zaJ n (by omega),⟨by omega,?_⟩⟩
 show((kF x none (some ((x.size:Int)-4))).size:Int)≤(x.size:Int)
 omega
theorem H0(n:Int)(x:ByteArray):(mg n x).1.size≤x.size:=by
 unfold mg
 dsimp only
 cases decide ((x.size:Int)<4)with
 |true=>exact Nat.zero_le _
 |false=>
  simp only[cond_false];generalize hc:cf .neq _ _=c
  cases c with
  |true=>exact Nat.zero_le _
  |false=>exact(Di (b:=x) (a:=none) (c:=some (IntKind.wrap .i64 ((x.size:Int)-4))))
theorem zaL(n:Int){x:ByteArray}(h:je x):H2 n x:=by
 have aa:=HW h.sK
 have ae:=H0 n (jL x).1
 unfold je at h
 have aq:dM (mg n (jL x).1).1:=by unfold dM;omega
 have aq:dM (⟨(mg n (jL x).1).1,0,true⟩:Rd).rest:=aq
 have aB:=wq (n:=24) aq
 have nR:dM (iz ⟨(mg n (jL x).1).1,0,true⟩ 24).1.rest:=by rw[aB];exact wo aq
 have re:dM (hj (iz ⟨(mg n (jL x).1).1,0,true⟩ 24).1).1.rest:=by rw[nL nR];exact nM nR
 have zQ:dM (hj (hj (iz ⟨(mg n (jL x).1).1,0,true⟩ 24).1).1).1.rest:=by rw[nL re];exact nM re
 exact⟨zaE (by unfold fF;omega),fun _=>⟨zaK n (by omega),fun _=>⟨sx aq,oL nR,oL re,oL zQ,fun _=>q4 _⟩⟩⟩
theorem zaM(n:Int){x:ByteArray}(h:je x)(now:Int)(l:List Int):H3 n x now l:=zaL n h
theorem Rm(n:Int):Dl n:=by
 refine⟨fun d=> -1≤d.2∧d.2≤7∧(d.1.size:Int)≤7-d.2,fun d=>(d.2+1).toNat,⟨by decide,by decide,by decide⟩,by decide,fun d hd aJ=>?_⟩
 obtain⟨aa,ae,au⟩:=hd
 have aJ:=of_decide_eq_true aJ
 have aB:IntKind.wrap .u64 d.2=d.2:=by rw[oH];omega
 have bl:IntKind.wrap .u64 (8*d.2)=8*d.2:=by rw[oH];omega
 have cx:IntKind.wrap .i64 (d.2-1)=d.2-1:=hD (by omega) (by omega)
 simp only[aB,bl,cx,wP,ua,List.length_cons,List.length_nil]
 refine⟨by omega,by omega,⟨by omega,by omega,by omega⟩,by omega⟩
def H4(n:Int):ByteArray:=bytesOf [(IntKind.wrap .u8 (bn .shr .u64 n (56:Int))),(IntKind.wrap .u8 (bn .shr .u64 n (48:Int))),(IntKind.wrap .u8 (bn .shr .u64 n (40:Int))),(IntKind.wrap .u8 (bn .shr .u64 n (32:Int))),(IntKind.wrap .u8 (bn .shr .u64 n (24:Int))),(IntKind.wrap .u8 (bn .shr .u64 n (16:Int))),(IntKind.wrap .u8 (bn .shr .u64 n (8:Int))),(IntKind.wrap .u8 (bn .shr .u64 n (0:Int)))]
theorem Rn(n:Int):wQ n=H4 n:=by kernel_rfl
theorem Ro(n:Int):(H4 n).size=8:=by
 unfold H4
 rw[ua]
 rfl
theorem zaN(n:Int){x:ByteArray}(h:x.size≤2000000):Dm n x:=by
 unfold Dm
 simp only[Rn,wP,Ro]
 refine⟨Rm n,by omega,Rm n,by omega,?_⟩
 show 0≤(ByteArray.size _:Int)∧(ByteArray.size _:Int)<9223372036854775808
 simp only[wP,Ro]
 omega
theorem Rp(n:Int){x:ByteArray}(h:x.size≤2000000):Dn n x:=by
 refine⟨zaN n h,?_⟩
 show x.size+(ux (wR n x)).size≤_
 unfold ux
 rw[ua]
 simp only[List.length_cons,List.length_nil]
 omega
end Go.aN
namespace Go.aN
open Go Go.eg
theorem zaO(h:Home){l:List br}{k:Nat}(aj:k<l.length):Dp h l (k:Int):=by
 have ai:iC l.length none (some (k:Int)):=sA (by omega) (by omega)
 have aJ:0≤(k:Int):=by omega
 have aa:(k:Int)<(l.length:Int):=by omega
 unfold Dp
 repeat' (first|exact trivial|exact aJ|exact aa|exact ai|exact q4 _|intro _|refine And.intro ?_ ?_|refine Exists.intro (fun _ _=>True) (And.intro trivial ?_))
theorem zaP(h:Home)(l:List br):H5 h l:=by
 refine⟨Hu h,fun _ _=>⟨fun _ _=>True,trivial,fun i _ hi _=>⟨zaO h (by rw[toNat_cast]at hi;omega),fun _=>trivial⟩⟩⟩
def uy(l:List br):Prop:=∀m∈l,m.gA.length≤1000000∧m.dj.length≤1000000
theorem zaQ{l:List br}(aq:uy l)(x:ByteArray):H6 l x:=by
 refine⟨fun _ _=>True,trivial,fun i _ hi _=>⟨fun _=>?_,fun _=>trivial⟩⟩
 rw[toNat_cast]at hi⊢
 obtain⟨aa,ae⟩:=aq _ (zq (d:=aw .br) hi)
 refine⟨?_,Hm ae⟩
 unfold H7 maxLen
 omega
theorem zaR(h:Home)(x:Int):rf h x:=Hv h x
theorem zaS(h:Home)(k:cd):Dq h k:=Q8 h k
theorem Rq{h:Home}{d:bA}(aT:q8 h d=0):d.bq.length≤4:=by
 unfold q8 at aT
 dsimp only at aT
 have:=(jJ (by decide) aT).1
 simp only[Bool.or_eq_false_iff,decide_eq_false_iff_not]at this
 omega
theorem zaT(h:Home)(x:Int):(lG h x).1.bq.length≤4:=by
 rw[zF]
 cases aT:(fc h != 0)with
 |true=>exact Nat.zero_le _
 |false=>
  have aJ:=jc aT
  simp only[cond_false]
  cases hf:bH (fun i=>(h.a8.getD i (aw .bA)).id==x) h.a8.length with
  |none=>exact Nat.zero_le _
  |some i=>
   have hi:=(gp hf).1
   have aq:=Da aJ
   exact Rq (Db (by omega) (C9 aJ i hi)).2
theorem zaU{h:Home}{x:Int}{i:Nat}(hi:i<(lG h x).1.bq.length):fc h=0:=by
 rw[zF]at hi
 cases aT:(fc h != 0)with
 |true=>rw[aT]at hi;exact absurd hi (Nat.not_lt_zero _)
 |false=>exact jc aT
theorem Rr{c:aO}(h:oP c=false):c.attrs.length≤12:=by
 unfold oP at h
 dsimp only at h
 rw[toNat_cast,fj (p:=fun i=>decide ((List.length ((List.getD c.commands i (aw .Command)).gq):Int)>12)) (F:=fun _=>true) (fun i u=>by simp only[toNat_cast])]at h
 cases hf:bH (fun i=>decide ((List.length ((List.getD c.commands i (aw .Command)).gq):Int)>12)) c.commands.length with
 |none=>
  rw[hf]at h;simp only[Bool.or_eq_false_iff,decide_eq_false_iff_not]at h;omega
 |some i=>rw[hf]at h;cases h
theorem zaV{h:Home}(aJ:fc h=0)(x:ByteArray):((jK .str (kE h) x).getD (aw .aO)).attrs.length≤12:=by
 rw[look_eq (zE (sG aJ))]
 cases hf:bH (fun i=>decide ((h.bq.getD i (aw .aO)).name=x)) h.bq.length with
 |none=>exact Nat.zero_le _
 |some i=>exact Rr (zD (sG aJ) i (gp hf).1).1.wide
theorem Rs{α:Type}(l:List α)(v:α):(List.append l [v]).length=l.length+1:=by
 show(l++[v]).length=_
 rw[List.length_append]
 rfl
theorem zaW(h:Home)(x:Int):H8 h x:=by
 refine⟨Hv h x,fun k d=>d.length≤12*k,Nat.zero_le _,fun i d hi hd=>?_⟩
 rw[toNat_cast]at hi
 have aR:=zaT h x
 have aJ:=zaU hi
 have zaX:=zaV aJ ((lG h x).1.bq.getD (Int.toNat (i:Int)) (aw .str))
 refine⟨fun j e=>e.length≤12*i+j,by show d.length≤_;omega,fun j e af he=>?_,fun c hc=>?_⟩
 ·rw[toNat_cast]at af
  have he:e.length≤12*i+j:=he
  refine⟨?_,?_⟩
  ·show e.length+1≤maxLen∧(e.length+1)*40≤140737488355328
   unfold maxLen;omega
  ·show(List.append e [_]).length≤_
   rw[Rs];omega
 ·rw[toNat_cast]at hc
  have hc:c.length≤12*i+_:=hc
  show c.length≤12*(i+1);omega
theorem zaY(h:Home)(q:bQ):wS h q:=by
 unfold wS
 repeat' (first|exact trivial|exact zaS _ _|exact zaW _ _|intro _|refine And.intro ?_ ?_|refine Exists.intro (fun _ _=>True) (And.intro trivial ?_))
theorem zaZ(h:Home)(m:br)(w:Int)(q:bQ):Dr h m w q:=by
 unfold Dr
 repeat' (first|exact trivial|exact zaR _ _|exact zaY _ _|intro _|refine And.intro ?_ ?_|refine Exists.intro (fun _ _=>True) (And.intro trivial ?_))
theorem za0(h:Home){l:List br}(aq:uy l)(x:ByteArray)(w:Int)(q:bQ):H9 h l x w q:=⟨zaP h l,fun _=>⟨zaQ aq x,fun _=>zaZ _ _ _ _⟩⟩
theorem zR(l:List aX)(x:ByteArray):hL l x=match bH (fun i=>decide ((l.getD i (aw .aX)).cq=x)) l.length with
 |some i=>((i:Int),true)
 |none=>match bH (fun i=>cf .gtr (l.getD i (aw .aX)).cq x) l.length with
  |some j=>((j:Int),false)
  |none=>((l.length:Int),false):=by
 unfold hL
 dsimp only
 rw[toNat_cast,fj (p:=fun i=>decide ((l.getD i (aw .aX)).cq=x)) (F:=fun i=>((i:Int),true)) (fun i u=>by
  simp only[hZ,toNat_cast]
  rw[decide_eq_true (show(i:Int)≥0 by omega),cond_true])]
 cases bH (fun i=>decide ((l.getD i (aw .aX)).cq=x)) l.length with
 |some i=>rfl
 |none=>
  dsimp only
  rw[decide_eq_false (show ¬(-1:Int)≥0 by omega),cond_false,fj (p:=fun i=>cf .gtr (l.getD i (aw .aX)).cq x) (F:=fun i=>((i:Int),false)) (fun i u=>by
   simp only[toNat_cast]
   rw[decide_eq_false (show ¬(i:Int)<0 by omega),cond_false])]
  cases bH (fun i=>cf .gtr (l.getD i (aw .aX)).cq x) l.length<;>rfl
theorem za1(l:List aX)(x:ByteArray):(0≤(hL l x).1∧(hL l x).1≤(l.length:Int))∧((hL l x).2=true→(hL l x).1<(l.length:Int)):=by
 rw[zR]
 cases hf:bH (fun i=>decide ((l.getD i (aw .aX)).cq=x)) l.length with
 |some i=>
  have:=(gp hf).1
  dsimp only;exact⟨⟨by omega,by omega⟩,fun _=>by omega⟩
 |none=>
  dsimp only
  cases ah:bH (fun i=>cf .gtr (l.getD i (aw .aX)).cq x) l.length with
  |some j=>
   have:=(gp ah).1
   dsimp only;exact⟨⟨by omega,by omega⟩,fun h=>by cases h⟩
  |none=>
   dsimp only;exact⟨⟨by omega,Int.le_refl _⟩,fun h=>by cases h⟩
theorem Ia{w:cv}(h:oU w=0): -1≤w.top∧w.top≤1099511627776:=by
 unfold oU at h
 simp only[cond_eq_ite]at h
 split at h
 ·rename_i aa
  simp only[Bool.and_eq_true,beq_iff_eq]at aa;omega
 ·split at h
  ·cases h
  ·rename_i ae
   simp only[Bool.or_eq_true,decide_eq_true_eq,not_or]at ae;omega
theorem za2(w:cv):Ib w:=by
 intro _ ae v10 v11 au
 have au:=of_decide_eq_true au
 simp only[Bool.or_eq_false_iff,decide_eq_false_iff_not]at ae
 show 0≤IntKind.wrap .i64 (w.top+1)
 rw[hD (by omega) (by omega)]
 omega
theorem Rt(w:cv)(n:Int):Ic w n:=by
 refine⟨za2 w,fun h=>?_⟩
 simp only[Bool.or_eq_false_iff,decide_eq_false_iff_not]at h
 obtain⟨⟨⟨aa,ae⟩,au⟩,_⟩:=h
 obtain⟨t1,t2⟩:=Ia (jc aa)
 refine⟨fun bN _=>?_,fun bN=>?_⟩
 ·have bN:=of_decide_eq_true bN
  show 0≤IntKind.wrap .i64 (n-w.top);rw[hD (by omega) (by omega)]
  omega
 ·have bN:=of_decide_eq_false bN
  show 0≤IntKind.wrap .i64 (w.top-n);rw[hD (by omega) (by omega)]
  omega
theorem Cw{c:Config}{ms:List br}{ws:List aX}{av:List Int}{a:gl}{now hb:Int}(hm:uy ms)(hw:ws.length≤1000000)(aH:je a.token):uz c ms ws av a now hb:=by
 obtain⟨dI,eO⟩:=za1 ws (iN c.key a.token now av).1.cq
 unfold uz
 extract_lets bw bS cT aI dD bK
 have J: ∀z,bK z:=by
  intro z _;refine⟨fun ak=>⟨⟨dI.1,eO ak⟩,⟨dI.1,eO ak⟩,Rt _ _,fun _=>⟨fun _=>⟨⟨dI.1,eO ak⟩,dI.1,eO ak⟩,fun hf=>?_⟩⟩,fun ak=>⟨Rt _ _,fun _=>⟨fun hf=>?_,fun _=>⟨sA dI.1 dI.2,⟨Int.le_refl _,?_⟩,?_⟩⟩⟩⟩
  ·rw[ak]at hf;cases hf
  ·rw[ak]at hf;cases hf
  ·show(0:Int)<1
   decide
  ·show ws.length+1≤maxLen∧(ws.length+1)*32≤140737488355328
   unfold maxLen;omega
 refine⟨⟨?_,?_⟩,zaM _ aH _ _,fun _=>⟨zaf _ _,fun _=>J _,fun _=>⟨za0 _ hm _ _ _,fun _=>J _,fun _=>J _⟩⟩,fun _=>J _⟩
 ·show 0+ws.length≤maxLen
  unfold maxLen;omega
 ·show(0+ws.length)*32≤140737488355328
  omega
end Go.aN
namespace Go.aN
open Go Go.eg
noncomputable def tZ(ws:List aX)(name:ByteArray):cv:=bif(hL ws name).2 then(ws.getD (Int.toNat (hL ws name).1) (aw .aX)).gT else⟨-1,0⟩
noncomputable def wT(ws:List aX)(name:ByteArray)(w:cv):List aX:=bif(hL ws name).2 then List.set ws (Int.toNat (hL ws name).1) ⟨(ws.getD (Int.toNat (hL ws name).1) (aw .aX)).cq,w⟩else(ws.take (Int.toNat (hL ws name).1)++[⟨name,w⟩])++ws.drop (Int.toNat (hL ws name).1)
noncomputable def zS(ws:List aX)(name:ByteArray)(n:Int):ByteArray × List aX × Int:=bif !(rh (tZ ws name) n).2 then(⟨#[]⟩,ws,18)else(name,wT ws name (rh (tZ ws name) n).1,0)
theorem Ru(c:Config)(ms:List br)(ws:List aX)(av:List Int)(a:gl)(now hb:Int):l8 c ms ws av a now hb=
 bif(iN c.key a.token now av).2 != 0 then(⟨#[]⟩,ws,(iN c.key a.token now av).2)else bif(oT c.home a.request) != 0 then(⟨#[]⟩,ws,oT c.home a.request)else
 bif(oV c.home ms (iN c.key a.token now av).1.cq hb a.request) != 0 then(⟨#[]⟩,ws,oV c.home ms (iN c.key a.token now av).1.cq hb a.request)else zS ws (iN c.key a.token now av).1.cq a.request.dO:=by
 unfold l8 zS tZ wT
 dsimp only
 generalize iN c.key a.token now av=v
 generalize oT c.home a.request=x
 generalize oV c.home ms v.1.cq hb a.request=y
 have ax:(v.2 != 0)= !(v.2==0):=rfl
 cases aa:v.2==0 with
 |false=>
  rw[ax,aa];simp only[cond_false,cond_true,Bool.not_false,ax,aa]
 |true=>
  rw[ax,aa];simp only[cond_true,Bool.not_true,cond_false]
  cases ae:(x != 0)with
  |true=>simp only[cond_true,ae]
  |false=>
   simp only[cond_false]
   cases au:(y != 0)with
   |true=>simp only[cond_true,au]
   |false=>
    simp only[cond_false,show((0:Int) != 0)=false from rfl]
    cases (hL ws v.1.cq).2<;>rfl
theorem za3(ws:List aX)(name:ByteArray)(w:cv):(wT ws name w).length≤ws.length+1:=by
 unfold wT
 cases (hL ws name).2 with
 |true=>
  simp only[cond_true,List.length_set];omega
 |false=>
  simp only[cond_false,List.length_append,List.length_take,List.length_drop,List.length_cons,List.length_nil];omega
theorem za4(c:Config)(ms:List br)(ws:List aX)(av:List Int)(a:gl)(now hb:Int):(l8 c ms ws av a now hb).2.1.length≤ws.length+1:=by
 rw[Ru]
 generalize ((iN c.key a.token now av).2 != 0)=A
 generalize (oT c.home a.request != 0)=B
 generalize (oV c.home ms (iN c.key a.token now av).1.cq hb a.request != 0)=C
 unfold zS
 generalize (rh (tZ ws (iN c.key a.token now av).1.cq) a.request.dO).2=D
 have:=za3 ws (iN c.key a.token now av).1.cq (rh (tZ ws (iN c.key a.token now av).1.cq) a.request.dO).1
 cases A<;>cases B<;>cases C<;>cases D<;>first|exact this|exact Nat.le_succ _
def wU:dS:=⟨⟨#[97,110,110]⟩,1,0,100⟩
theorem Rv:(decide ((zT (7:Int) wU).1.size≤30000)&&(decide ((zU wU).size≤2000000)&&decide ((wV (7:Int) (zU wU)).size≤1000000)))=true:=by kernel_rfl
theorem zV{n:Int}(aa: -1000000≤n)(ae:n≤1000000):ix n:=⟨by omega,by omega⟩
theorem za5:Ds wU:=by
 have ai:fF (⟨#[97,110,110]⟩:ByteArray):=by unfold fF;decide
 have aa:=zV (n:=1) (by decide) (by decide)
 have aJ:=zV (n:=0) (by decide) (by decide)
 have ae:=zV (n:=100) (by decide) (by decide)
 have cg:=wk ai
 have a2:=l9 aa
 have a3:=l9 aJ
 have a4:=l9 ae
 unfold Ds
 simp only[wP]
 show CG ⟨#[97,110,110]⟩∧pV 1∧(q1 ⟨#[97,110,110]⟩).size+(j2 1).size≤_∧pV 0∧(q1 ⟨#[97,110,110]⟩).size+(j2 1).size+(j2 0).size≤_∧pV 100∧(q1 ⟨#[97,110,110]⟩).size+(j2 1).size+(j2 0).size+(j2 100).size≤_
 rw[Y5 ai,Ha aa,Ha aJ,Ha ae]
 exact⟨Y4 ai,CF aa,by omega,CF aJ,by omega,CF ae,by omega⟩
theorem za6:Ie (7:Int) wU:=by
 have h:=Rv
 simp only[Bool.and_eq_true,decide_eq_true_eq]at h
 exact⟨oN _,fun _=>⟨za5,Rp _ h.2.1,zaH h.2.2⟩⟩
theorem Ig:je (zT (7:Int) wU).1:=by
 have h:=Rv
 simp only[Bool.and_eq_true,decide_eq_true_eq]at h
 exact h.1
def za7:bQ:=⟨1,4,⟨1,⟨#[111,110,111,102,102]⟩,⟨#[111,110]⟩⟩,⟨#[]⟩,⟨0,0,⟨#[]⟩⟩,⟨#[]⟩⟩
theorem Yl:Dt=true:=by kernel_rfl
theorem Ih:uy Du.2:=fun m hm=>by
 have hm:m∈([⟨⟨#[97,110,110]⟩,4,[],[],false⟩]:List br):=hm
 rw[List.mem_singleton]at hm
 subst hm
 exact⟨by decide,by decide⟩
theorem GU:zW:=by
 unfold zW
 extract_lets v0 v3 v6 v10 dp dQ cj h3
 have zlQ:v6.2.1.length≤1:=za4 _ _ _ _ _ _ _
 have aK:CN za7:=by
  constructor<;>first|exact zV (by decide) (by decide)|(unfold fF;decide)|(constructor<;>first|exact zV (by decide) (by decide)|(unfold fF;decide))
 refine⟨trivial,za6,Cw Ih (by decide) Ig,Cw Ih (by omega) Ig,Cw Ih (by omega) Ig,Zx aK,Zl (Zv aK),fun h=>⟨Int.le_refl _,?_⟩⟩
 have h:((v3.2==0&&cf .eql v6.1 (⟨#[97,110,110]⟩:ByteArray))&&v6.2.2==0&&(List.length v6.2.1:Int)==1)=true:=h
 simp only[Bool.and_eq_true,beq_iff_eq]at h
 omega
end Go.aN
namespace Go.aN
open Go Go.eg
theorem Yg{x:Case}(h:x.members.length≤9223372036854775807):Ii x:=by
 intro _
 show 0≤(x.members.length:Int)∧(x.members.length:Int)<9223372036854775808
 omega
theorem Qd{x:Case}(h:tV x=false):(x.c.home.bq.length≤100∧x.c.home.a8.length≤30)∧uy x.members∧x.kS.length≤60∧je x.a.token∧x.a.request.text.size≤25000∧x.members.length≤30:=by
 unfold tV at h
 dsimp only at h
 rw[toNat_cast,fj (p:=fun i=>(decide ((List.length ((List.getD x.members i (aw .br)).gA):Int)>300))||(decide ((List.length ((List.getD x.members i (aw .br)).dj):Int)>300))) (F:=fun _=>true) (fun i u=>by simp only[toNat_cast])]at h
 generalize c4:(((((((decide ((List.length x.c.home.bq:Int)>100))||(decide ((List.length x.c.home.a8:Int)>30)))||(decide ((x.members.length:Int)>30)))||(decide ((List.length x.kS:Int)>60)))||(decide ((List.length x.oF:Int)>100)))||(decide ((ByteArray.size x.a.token:Int)>1000)))||(decide ((ByteArray.size x.a.request.text:Int)>25000)))=A at h
 cases A with
 |true=>cases h
 |false=>
  simp only[Bool.or_eq_false_iff,decide_eq_false_iff_not]at c4;obtain⟨⟨⟨⟨⟨⟨cg,a2⟩,a3⟩,a4⟩,a5⟩,zlR⟩,zlS⟩:=c4;refine⟨⟨by omega,by omega⟩,fun m hm=>?_,by omega,by unfold je;omega,by omega,by omega⟩
  obtain⟨j,af,rfl⟩:=List.mem_iff_getElem.1 hm
  cases hf:bH (fun i=>(decide ((List.length ((List.getD x.members i (aw .br)).gA):Int)>300))||(decide ((List.length ((List.getD x.members i (aw .br)).dj):Int)>300))) x.members.length with
  |some i=>rw[hf]at h;cases h
  |none=>
   have:=me hf j af
   rw[p5 (List.getElem?_eq_getElem af)]at this
   simp only[Bool.or_eq_false_iff,decide_eq_false_iff_not]at this;omega
def v8(l:List aX)(x:ByteArray):cv:=match l.find? (fun g=>decide (g.cq=x))with
 |some g=>g.gT
 |none=>⟨-1,0⟩
theorem Qf{α:Type}(l:List α)(d:α)(p:α→Bool):l.find? p=(bH (fun i=>p (l.getD i d)) l.length).map fun i=>l.getD i d:=by
 cases hf:bH (fun i=>p (l.getD i d)) l.length with
 |none=>
  have hf:=me hf
  refine List.find?_eq_none.2 fun a aY=>?_
  obtain⟨j,af,rfl⟩:=List.mem_iff_getElem.1 aY
  have:=hf j af
  rw[p5 (List.getElem?_eq_getElem af)]at this
  simp[this]
 |some i=>
  obtain⟨aa,ae,au⟩:=gp hf;rw[Option.map_some];refine List.find?_eq_some_iff_getElem.2 ⟨ae,i,aa,?_,fun j af=>?_⟩
  ·rw[p5 (List.getElem?_eq_getElem aa)]
  ·have:=au j af
   rw[p5 (List.getElem?_eq_getElem (show j<l.length by omega))]at this
   simp[this]
theorem Rw(l:List aX)(x:ByteArray):uA l x=v8 l x:=by
 unfold uA v8
 dsimp only
 rw[toNat_cast,fj (p:=fun i=>decide ((l.getD i (aw .aX)).cq=x)) (F:=fun i=>(l.getD i (aw .aX)).gT) (fun i u=>by simp only[hZ,toNat_cast]),Qf l (aw .aX)]
 all_goals cases bH (fun i=>decide ((l.getD i (aw .aX)).cq=x)) l.length<;>rfl
theorem Yt{l:List aX}{x:ByteArray}(h:(hL l x).2=true): ∃i:Nat,hL l x=((i:Int),true)∧i<l.length∧(l.getD i (aw .aX)).cq=x∧∀j,j<i→(l.getD j (aw .aX)).cq≠x:=by
 rw[zR]at h⊢
 cases hf:bH (fun i=>decide ((l.getD i (aw .aX)).cq=x)) l.length with
 |some i=>
  obtain⟨aa,ae,au⟩:=gp hf;exact⟨i,rfl,aa,of_decide_eq_true ae,fun j af=>of_decide_eq_false (au j af)⟩
 |none=>
  rw[hf]at h;dsimp only at h
  cases ah:bH (fun i=>cf .gtr (l.getD i (aw .aX)).cq x) l.length with
  |some j=>rw[ah]at h;cases h
  |none=>rw[ah]at h;cases h
theorem Yu{l:List aX}{x:ByteArray}(h:(hL l x).2=false): ∃i:Nat,hL l x=((i:Int),false)∧i≤l.length∧∀g∈l,g.cq≠x:=by
 rw[zR]at h⊢
 cases hf:bH (fun i=>decide ((l.getD i (aw .aX)).cq=x)) l.length with
 |some i=>rw[hf]at h;cases h
 |none=>
  have hn: ∀g∈l,g.cq≠x:=fun g ah=>by
   obtain⟨j,af,rfl⟩:=List.mem_iff_getElem.1 ah
   have:=of_decide_eq_false (me hf j af)
   rw[p5 (List.getElem?_eq_getElem af)]at this
   exact this
  dsimp only
  cases ah:bH (fun i=>cf .gtr (l.getD i (aw .aX)).cq x) l.length with
  |some j=>
   have:=(gp ah).1
   exact⟨j,rfl,by omega,hn⟩
  |none=>exact⟨l.length,rfl,Nat.le_refl _,hn⟩
theorem Yr{x:Case}(h:sq ⟨.st .Case,x⟩):x.members.length≤9223372036854775807:=by
 have eH:lC ⟨.li .br,x.members⟩:=h _ (List.mem_of_getElem? (i:=7) rfl)
 cases eH
 assumption
end Go.aN
namespace Go.aN
open Go Go.eg
theorem Rx{a b:Nat}(aY:a<18446744073709551616)(ad:b<18446744073709551616):bn .or .u64 (a:Int) (b:Int)=((a ||| b:Nat):Int):=u64_or_nat a b aY ad
theorem Ry{a b:Nat}(aY:a<18446744073709551616)(ad:b<18446744073709551616):bn .and .u64 (a:Int) (b:Int)=((a &&& b:Nat):Int):=u64_and_nat a b aY ad
theorem Rz(a k:Nat)(aj:k<64):bn .shl .u64 (a:Int) (k:Int)=(((a*2^k)%2^64:Nat):Int):=by
 show IntKind.u64.wrap ((a:Int)*2^(min (Int.toNat (k:Int)) 64))=_
 rw[Int.toNat_natCast,Nat.min_eq_left (by omega),oH]
 have e:(a:Int)*2^k=((a*2^k:Nat):Int):=by simp
 rw[e]
 omega
theorem za8{a b:Nat}(aY:a<18446744073709551616)(ad:b<18446744073709551616):a ||| b<18446744073709551616:=Nat.or_lt_two_pow (n:=64) aY ad
def yZ(w:cv):Prop:=∃B:Nat,w.bits=(B:Int)∧B<18446744073709551616
theorem Ij{k:Nat}(h:k<64):2^k<18446744073709551616:=Nat.pow_lt_pow_right (a:=2) (by decide) (m:=k) (n:=64) h
theorem RA{k:Nat}(aj:k<64):bn .shl .u64 (1:Int) (k:Int)=((2^k:Nat):Int):=by
 have:=Rz 1 k aj
 rw[Nat.one_mul,Nat.mod_eq_of_lt (Ij aj)]at this
 exact this
theorem za9(B:Nat):(B ||| 1).testBit 0=true:=by
 rw[Nat.testBit_or]
 simp
end Go.aN
namespace Go.aN
open Go Go.eg
theorem zba: ∀n:Nat,n<256→uB (n:Int)=uC (n:Int):=by decide+kernel
theorem RB(x:ByteArray):zX x=jL x:=by
 have h: ∀z:Int,uB (dP x z)=uC (dP x z):=by
  intro z;obtain⟨n,e,hn⟩:=Rk x z;rw[e];exact zba n hn
 unfold zX jL
 simp only[h]
 rfl
theorem zbb{x:ByteArray}(hx:je x):Dv x:=by
 unfold Dv
 intro v1 ax
 have h:(bn .rem .i64 (x.size:Int) 2 != 0)=false:=ax
 have h:(x.size:Int).tmod 2=0:=by simpa[bn]using h
 unfold je at hx
 refine⟨fun d=>0≤d.1∧d.1≤(x.size:Int)∧d.1%2=0∧(d.2.length:Int)≤d.1,fun d=>x.size-d.1.toNat,⟨Int.le_refl _,by show(0:Int)≤_;omega,rfl,Int.le_refl _⟩,?_,?_⟩
 ·show x.size-Int.toNat 0<18446744073709551616
  omega
 ·intro d0 hd
  obtain⟨d1,d2,d3,d4⟩:=hd;intro bM
  have bM:d0.1<(x.size:Int):=of_decide_eq_true bM
  rw[Int.tmod_eq_emod_of_nonneg (by omega)]at h
  have cP:IntKind.wrap .i64 (d0.1+1)=d0.1+1:=gx _ (by omega) (by omega)
  have dC:IntKind.wrap .i64 (d0.1+2)=d0.1+2:=gx _ (by omega) (by omega)
  refine⟨⟨d1,bM⟩,?_,fun _=>⟨⟨?_,?_⟩,⟨?_,?_,?_,?_⟩,?_⟩⟩
  ·show 0≤IntKind.wrap .i64 (d0.1+1)∧IntKind.wrap .i64 (d0.1+1)<_
   rw[cP];omega
  ·show d0.2.length+1≤maxLen
   unfold maxLen;omega
  ·show(d0.2.length+1)*1≤_
   omega
  ·show 0≤IntKind.wrap .i64 (d0.1+2)
   rw[dC];omega
  ·show IntKind.wrap .i64 (d0.1+2)≤_
   rw[dC];omega
  ·show IntKind.wrap .i64 (d0.1+2)%2=0
   rw[dC];omega
  ·show((List.append d0.2 [_]).length:Int)≤IntKind.wrap .i64 (d0.1+2)
   rw[dC,HV];omega
  ·show x.size-(IntKind.wrap .i64 (d0.1+2)).toNat<x.size-d0.1.toNat
   rw[dC];omega
theorem zbc(n:Int)(x:ByteArray):wR n x=zY n x:=by
 unfold wR zY
 rw[Rn]
 rfl
theorem zbd(x:ByteArray)(k:Nat):kF x none (some (k:Int))=x.extract 0 k:=by
 show x.extract 0 (Int.toNat (k:Int))=_
 rw[Int.toNat_natCast]
theorem zbe(x:ByteArray)(k:Nat):kF x (some (k:Int)) none=x.extract k x.size:=by
 show x.extract (Int.toNat (k:Int)) x.size=_
 rw[Int.toNat_natCast]
theorem zbf{a b c:ByteArray}:a++b=a++c↔b=c:=by
 refine⟨fun h=>?_,fun h=>by rw[h]⟩
 have aa:=congrArg (fun s:ByteArray=>s.data.toList) h
 simp only[ByteArray.data_append,Array.toList_append,List.append_cancel_left_eq]at aa
 exact wg aa
theorem zbg(z:Int):bn .shr .i64 z (0:Int)=z:=by
 show z.fdiv (2^(min (Int.toNat 0) 64))=z
 rw[show min (Int.toNat 0) 64=0 from rfl,Int.pow_zero,Int.fdiv_one]
theorem zbh(z:Int):ux z=bytesOf [(IntKind.wrap .u8 (bn .shr .i64 z (24:Int))),(IntKind.wrap .u8 (bn .shr .i64 z (16:Int))),(IntKind.wrap .u8 (bn .shr .i64 z (8:Int))),(IntKind.wrap .u8 (bn .shr .i64 z (0:Int)))]:=by
 unfold ux
 rw[zbg]
theorem RD(n:Int){x:ByteArray}(hx:x.size≤1000000):zZ n x=mg n x:=by
 unfold zZ mg
 dsimp only
 by_cases aR:(x.size:Int)<4
 ·rw[decide_eq_true aR,cond_true,cond_true]
 ·obtain⟨k,aj⟩: ∃k:Nat,(x.size:Int)-4=(k:Int):=⟨_,(Int.toNat_of_nonneg (by omega)).symm⟩
  have zbi:k≤x.size:=by omega
  have ai:(x.extract 0 k).size=k:=by rw[ByteArray.size_extract];omega
  rw[decide_eq_false aR,cond_false,cond_false,hD (n:=(x.size:Int)-4) (by omega) (by omega),aj,zbd,ai,zbe]
  unfold wV;rw[zbc,zbh,CT,CT];generalize ad:bytesOf _=B
  have e:decide (ByteArray.append (x.extract 0 k) B=x)=decide (x.extract k x.size=B):=by
   refine decide_eq_decide.2 ?_
   show x.extract 0 k++B=x↔_
   conv=>lhs;rhs;rw[YL x k zbi]
   rw[zbf];exact eq_comm
  rw[e]
theorem zbj(s:dS):wW s=Dw s:=by
 unfold wW Dw
 rw[q5,sz]
theorem zbk(l:List Int)(x:Int):z1 l x=z6 l x:=by
 have aB:z1 l x=(bH (fun i=>x==l.getD i (aw .i64)) l.length).isSome:=by
  unfold z1;dsimp only
  rw[toNat_cast,fj (p:=fun i=>x==l.getD i (aw .i64)) (F:=fun _=>true) (fun i u=>by
   simp only[toNat_cast]
   rw[show(l.getD i (aw .i64)==x)=(x==l.getD i (aw .i64))by rw[Bool.eq_iff_iff];simp only[beq_iff_eq];exact eq_comm])]
  cases bH (fun i=>x==l.getD i (aw .i64)) l.length<;>rfl
 have bl:Dx l x=match bH (fun i=>x==l.getD i (aw .i64)) l.length with|some i=>(i:Int)|none=> -1:=by
  unfold Dx;dsimp only;rw[toNat_cast,fj (p:=fun i=>x==l.getD i (aw .i64)) (F:=fun i=>(i:Int)) (fun i u=>by simp only[toNat_cast])]
  all_goals cases bH (fun i=>x==l.getD i (aw .i64)) l.length<;>rfl
 unfold z6
 rw[aB,bl]
 cases bH (fun i=>x==l.getD i (aw .i64)) l.length with
 |none=>rfl
 |some i=>exact(decide_eq_true (by show(i:Int)≥0;omega)).symm
theorem zbl(n:Int){x:ByteArray}(hx:je x):z7 n x=wX n x:=by
 have aa:=HW hx.sK
 have ae:=H0 n (jL x).1
 unfold je at hx
 unfold z7 wX
 rw[RB]
 dsimp only
 rw[RD n (x:=(jL x).1) (by omega)]
 refine congrArg (cond _ _) (congrArg (cond _ _) ?_)
 generalize ay:(mg n (jL x).1).1=y at ae
 have aq:dM y:=by unfold dM;omega
 have pT:=QP aq
 have cR:=Qz 24 _ _ pT
 have c7:=wi _ _ cR.2
 have fV:=wi _ _ c7.2
 have mh:=wi _ _ fV.2
 have nR:dM (kB (we y) 24).2.rest:=wo aq
 have re:=nM nR
 have zQ:=nM re
 have aB:uf ⟨y,0,0,true⟩ 24=((mU (y5 y) 24).2,(mU (y5 y) 24).1):=QO (q:=⟨y,0,0,true⟩) pT.1
 have bl:=wx cR.2.1
 have cx:=wx c7.2.1
 have eR:=wx fV.2.1
 have d1:iz ⟨y,0,true⟩ 24=((kB (we y) 24).2,(kB (we y) 24).1):=wq (r:=we y) aq
 have d2:=nL nR
 have d3:=nL re
 have d4:=nL zQ
 rw[aB,d1]
 dsimp only
 rw[bl,d2]
 dsimp only
 rw[cx,d3]
 dsimp only
 rw[eR,d4]
 dsimp only
 rw[Zd,Zc,←YY mh.2,cR.1,c7.1,fV.1,mh.1,zbj]
theorem zbm(n:Int){x:ByteArray}(hx:je x)(now:Int)(l:List Int):((wY n x now l).2=(iN n x now l).2)∧((iN n x now l).2=0→wY n x now l=iN n x now l):=by
 unfold wY iN
 rw[zbl n hx]
 dsimp only
 generalize wX n x=v
 rw[zbk]
 generalize z6 l v.1.id=B
 generalize ((decide (now<v.1.mZ))||(decide (now≥v.1.m0)))=A
 cases aT:(v.2 != 0)with
 |true=>
  have aT:v.2≠0:=by simpa using aT
  exact⟨rfl,fun h=>absurd h aT⟩
 |false=>
  cases A with
  |true=>exact⟨rfl,fun h=>by cases h⟩
  |false=>cases B<;>exact⟨rfl,fun _=>rfl⟩
theorem zbn(n:Int){x:ByteArray}(h:x.size≤1000000):Ik n x:=by
 intro aR
 have aR:=of_decide_eq_false aR
 have ax:IntKind.wrap .i64 ((x.size:Int)-4)=(x.size:Int)-4:=hD (by omega) (by omega)
 rw[ax]
 have ai:=Di (b:=x) (a:=none) (c:=some ((x.size:Int)-4))
 exact⟨⟨by omega,by omega⟩,Rp n (by omega)⟩
theorem zbo(n:Int){x:ByteArray}(hx:je x):Dy n x:=by
 have aa:=HW hx.sK
 have ae:=H0 n (jL x).1
 have fA:=hx
 unfold je at hx
 unfold Dy
 rw[RB]
 dsimp only
 rw[RD n (x:=(jL x).1) (by omega)]
 refine⟨zbb fA,fun _=>⟨zbn n (by omega),fun _=>?_⟩⟩
 generalize ay:(mg n (jL x).1).1=y at ae
 have aq:dM y:=by unfold dM;omega
 have pT:=QP aq
 have cR:=Qz 24 _ _ pT
 have c7:=wi _ _ cR.2
 have fV:=wi _ _ c7.2
 have aB:uf ⟨y,0,0,true⟩ 24=((mU (y5 y) 24).2,(mU (y5 y) 24).1):=QO (q:=⟨y,0,0,true⟩) pT.1
 have bl:=wx cR.2.1
 have cx:=wx c7.2.1
 rw[aB]
 dsimp only
 rw[bl]
 dsimp only
 rw[cx]
 exact⟨Zn pT.1,CL cR.2.1,CL c7.2.1,CL fV.2.1,fun _=>oN _⟩
end Go.aN
namespace Go.aN
open Go Go.eg
theorem Dz{w:cv}{B:Nat}(ad:w.bits=(B:Int))(z:Int):lH w z=(decide (0≤z∧z≤63)&&B.testBit z.toNat):=by
 unfold lH
 rw[ad]
 by_cases h:0≤z∧z≤63
 ·obtain⟨k,rfl⟩: ∃k:Nat,z=(k:Int):=⟨_,(Int.toNat_of_nonneg h.1).symm⟩
  have aj:k<64:=by omega
  rw[decide_eq_true h,decide_eq_true (show(k:Int)≥0 from h.1),decide_eq_true h.2,Bool.and_true,Bool.true_and,Bool.true_and,Int.toNat_natCast,Nat.testBit_eq_decide_div_mod_eq]
  have aB:bn .shr .u64 (B:Int) (k:Int)=((B/ 2^k:Nat):Int):=by
   show(B:Int).fdiv (2^(min (Int.toNat (k:Int)) 64))=_;rw[Int.toNat_natCast,Nat.min_eq_left (by omega),Int.fdiv_eq_ediv_of_nonneg _ (by exact Int.le_of_lt (Int.pow_pos (by decide)))]
   simp
  have bl:bn .rem .u64 ((B/ 2^k:Nat):Int) (2:Int)=((B/ 2^k%2:Nat):Int):=by
   show((B/ 2^k:Nat):Int).tmod 2=_;rw[Int.tmod_eq_emod_of_nonneg (Int.natCast_nonneg _)];rfl
  rw[aB,bl,Bool.eq_iff_iff];simp only[beq_iff_eq,decide_eq_true_eq];omega
 ·rw[decide_eq_false h]
  by_cases aJ:z≥0
  ·rw[decide_eq_true aJ,decide_eq_false (show ¬z≤63 by omega)]
   rfl
  ·rw[decide_eq_false aJ]
   rfl
theorem RE{q:Nat→Bool}{b:Int→Step Int Int}(ad: ∀k:Nat,k≤63→b (k:Int)=bif q k then .ret 2 else .bh ((k+1:Nat):Int))(he:b 64= .cz 64):
 ∀(m k f:Nat),k+m=64→m<f→(cJ b f (k:Int)= .inl 2∧∃j,k≤j∧j<64∧q j=true)∨(cJ b f (k:Int)= .inr 64∧∀j,k≤j→j<64→q j=false)
 |0,k,f+1,aj,_=>by
  have:k=64:=by omega
  subst this;exact .inr ⟨y7 he,fun j aa ae=>by omega⟩
 |m+1,k,f+1,aj,hf=>by
  have bk:=ad k (by omega)
  cases aK:q k with
  |true=>
   rw[aK]at bk;refine .inl ⟨?_,k,Nat.le_refl _,by omega,aK⟩
   unfold cJ;rw[bk];rfl
  |false=>
   rw[aK]at bk;rw[y8 bk]
   rcases RE ad he m (k+1) f (by omega) (by omega)with⟨aa,j,ae,au,aR⟩|⟨aa,ae⟩
   ·exact .inl ⟨aa,j,by omega,au,aR⟩
   ·refine .inr ⟨aa,fun j au aR=>?_⟩
    by_cases af:j=k
    ·rw[af];exact aK
    ·exact ae j (by omega) aR
def okW(top:Int)(B:Nat):Prop:=(top= -1∧B=0)∨(0≤top∧top≤1099511627776∧B.testBit 0=true∧∀j:Nat,(j:Int)>top→j<64→B.testBit j=false)
theorem RF{w:cv}{B:Nat}(ad:w.bits=(B:Int))(fz:B<18446744073709551616):(oU w=0↔okW w.top B)∧(oU w=0∨oU w=2):=by
 unfold oU okW
 rw[ad]
 have h0:(bn .and .u64 (B:Int) (1:Int)==0)= !(B.testBit 0):=by
  have:=Ry fz (show 1<18446744073709551616 by decide)
  have:bn .and .u64 (B:Int) (1:Int)=((B &&& 1:Nat):Int):=this
  rw[this,Nat.and_one_is_mod,Nat.testBit_zero,Bool.eq_iff_iff];simp only[beq_iff_eq,Bool.not_eq_true',decide_eq_false_iff_not];omega
 rw[h0]
 cases aa:((w.top== -1)&&((B:Int)==0))with
 |true=>
  simp only[Bool.and_eq_true,beq_iff_eq]at aa;exact⟨⟨fun _=>.inl ⟨aa.1,by omega⟩,fun _=>rfl⟩,.inl rfl⟩
 |false=>
  simp only[cond_false]
  cases ae:(((decide (w.top<0))||(decide (w.top>1099511627776)))|| !(B.testBit 0))with
  |true=>
   refine⟨⟨fun h=>(by cases h),fun h=>?_⟩,.inr rfl⟩
   exfalso;simp only[Bool.or_eq_true,decide_eq_true_eq,Bool.not_eq_true']at ae
   rcases h with⟨au,aR⟩|⟨au,aR,bN,_⟩
   ·rw[au,aR]at aa
    simp at aa
   ·rcases ae with (ae|ae)|ae
    ·omega
    ·omega
    ·rw[bN]at ae;cases ae
  |false=>
   simp only[Bool.or_eq_false_iff,decide_eq_false_iff_not,Bool.not_eq_false']at ae;obtain⟨⟨t1,t2⟩,au⟩:=ae;simp only[cond_false]
   by_cases oW:w.top<63
   ·obtain⟨k,aj⟩: ∃k:Nat,w.top=(k:Int):=⟨_,(Int.toNat_of_nonneg (by omega)).symm⟩
    have aB:bn .shr .u64 (B:Int) (IntKind.wrap .i64 (w.top+1))=((B/ 2^(k+1):Nat):Int):=by
     rw[hD (by omega) (by omega),aj]
     show(B:Int).fdiv (2^(min (Int.toNat ((k:Int)+1)) 64))=_;rw[show Int.toNat ((k:Int)+1)=k+1 by omega,Nat.min_eq_left (by omega),Int.fdiv_eq_ediv_of_nonneg _ (by exact Int.le_of_lt (Int.pow_pos (by decide)))]
     simp
    rw[decide_eq_true oW,aB,Bool.true_and]
    have key:B/ 2^(k+1)=0↔∀j:Nat,(j:Int)>w.top→j<64→B.testBit j=false:=by
     constructor
     ·intro aJ j af _
      have:(B/ 2^(k+1)).testBit (j-(k+1))=false:=by rw[aJ,Nat.zero_testBit]
      rw[Nat.testBit_div_two_pow]at this;rw[show j-(k+1)+(k+1)=j by omega]at this
      exact this
     ·intro h
      apply Nat.eq_of_testBit_eq;intro i;rw[Nat.testBit_div_two_pow,Nat.zero_testBit]
      by_cases hi:i+(k+1)<64
      ·exact h (i+(k+1)) (by omega) hi
      ·exact Nat.testBit_lt_two_pow (Nat.lt_of_lt_of_le fz (Nat.pow_le_pow_right (show 0<2 by decide) (show 64≤i+(k+1)by omega)))
    cases aR:(((B/ 2^(k+1):Nat):Int) != 0)with
    |true=>
     refine⟨⟨fun h=>(by cases h),fun h=>?_⟩,.inr rfl⟩
     exfalso
     have aR:((B/ 2^(k+1):Nat):Int)≠0:=by simpa using aR
     rcases h with⟨bN,_⟩|⟨_,_,_,bN⟩
     ·omega
     ·have:=key.2 bN
      rw[this]at aR;exact aR rfl
    |false=>
     have aR:((B/ 2^(k+1):Nat):Int)=0:=by simpa using aR
     exact⟨⟨fun _=>.inr ⟨by omega,by omega,au,key.1 (by omega)⟩,fun _=>rfl⟩,.inl rfl⟩
   ·rw[decide_eq_false oW]
    exact⟨⟨fun _=>.inr ⟨by omega,by omega,au,fun j af Il=>by omega⟩,fun _=>rfl⟩,.inl rfl⟩
theorem zbp{w:cv}{B:Nat}(ad:w.bits=(B:Int)):(sL w=0↔okW w.top B)∧(sL w=0∨sL w=2):=by
 unfold sL okW
 rw[Dz ad]
 dsimp only
 rw[ad]
 have zbq:((B:Int) != 0)= !(decide (B=0)):=by
  rw[Bool.eq_iff_iff];simp
 rw[zbq]
 rcases RE (q:=fun k=>B.testBit k&&decide ((k:Int)>w.top)) (b:=fun(aM:Int)=>bif(decide (aM≤63))then(bif((lH w aM)&&(decide (aM>w.top)))then .ret 2 else .bh (IntKind.wrap .i64 (aM+(1:Int))))else .cz aM) (fun k aj=>by
  rw[decide_eq_true (show(k:Int)≤63 by omega),Dz ad,decide_eq_true (show 0≤(k:Int)∧(k:Int)≤63 by omega),Bool.true_and,Int.toNat_natCast,hD (by omega) (by omega)]
  rfl) rfl 64 0 dk (by omega) (by decide)with⟨aa,j,ae,au,aR⟩|⟨aa,ae⟩
 ·have aa:cJ (fun(aM:Int)=>bif(decide (aM≤63))then(bif((lH w aM)&&(decide (aM>w.top)))then .ret 2 else .bh (IntKind.wrap .i64 (aM+(1:Int))))else .cz aM) dk 0=(.inl 2:Int⊕Int):=aa
  rw[aa];simp only[Bool.and_eq_true,decide_eq_true_eq]at aR;generalize ax:(((decide (w.top<(-1)))||(decide (w.top>1099511627776)))||((w.top==(-1))&& !(decide (B=0))))=bw
  refine⟨⟨fun h=>?_,fun h=>?_⟩,.inr ?_⟩
  ·exfalso
   revert h
   cases bw<;>cases decide (w.top≥0)<;>cases (decide (0≤(0:Int)∧(0:Int)≤63)&&B.testBit (Int.toNat 0))<;>(intro h;cases h)
  ·exfalso
   rcases h with⟨_,cL⟩|⟨_,_,_,cL⟩
   ·rw[cL,Nat.zero_testBit]at aR
    cases aR.1
   ·rw[cL j aR.2 au]at aR
    cases aR.1
  ·cases bw<;>cases decide (w.top≥0)<;>cases (decide (0≤(0:Int)∧(0:Int)≤63)&&B.testBit (Int.toNat 0))<;>rfl
 ·have aa:cJ (fun(aM:Int)=>bif(decide (aM≤63))then(bif((lH w aM)&&(decide (aM>w.top)))then .ret 2 else .bh (IntKind.wrap .i64 (aM+(1:Int))))else .cz aM) dk 0=(.inr 64:Int⊕Int):=aa
  rw[aa]
  have hx:(decide (0≤(0:Int)∧(0:Int)≤63)&&B.testBit (Int.toNat 0))=B.testBit 0:=rfl
  rw[hx]
  cases ax:(((decide (w.top<(-1)))||(decide (w.top>1099511627776)))||((w.top==(-1))&& !(decide (B=0))))with
  |true=>
   refine⟨⟨fun h=>(by cases h),fun h=>?_⟩,.inr rfl⟩
   exfalso;simp only[Bool.or_eq_true,decide_eq_true_eq,Bool.and_eq_true,beq_iff_eq,Bool.not_eq_true',decide_eq_false_iff_not]at ax
   rcases h with⟨bN,cL⟩|⟨bN,cL,_⟩
   ·rcases ax with (ax|ax)|ax
    ·omega
    ·omega
    ·exact ax.2 cL
   ·omega
  |false=>
   simp only[Bool.or_eq_false_iff,decide_eq_false_iff_not]at ax;obtain⟨⟨t1,t2⟩,t3⟩:=ax
   by_cases aH:w.top≥0
   ·rw[decide_eq_true aH]
    cases zlT:B.testBit 0 with
    |false=>exact⟨⟨fun h=>(by cases h),fun h=>by rcases h with⟨bN,_⟩|⟨_,_,bN,_⟩<;>first|omega|(cases bN)⟩,.inr rfl⟩
    |true=>exact⟨⟨fun _=>.inr ⟨aH,by omega,rfl,fun j af Il=>by
     have:=ae j (by omega) Il
     simp only[Bool.and_eq_false_iff,decide_eq_false_iff_not]at this
     rcases this with h|h
     ·exact h
     ·exact absurd af h⟩,fun _=>rfl⟩,.inl rfl⟩
   ·rw[decide_eq_false aH]
    have hm:w.top= -1:=by omega
    rw[hm]at t3
    have Im:B=0:=by simpa using t3
    exact⟨⟨fun _=>.inl ⟨hm,Im⟩,fun _=>rfl⟩,.inl rfl⟩
theorem RG{w:cv}(hw:yZ w):(sL w != 0)=(oU w != 0):=by
 obtain⟨B,ad,fz⟩:=hw
 obtain⟨aa,ae⟩:=zbp ad
 obtain⟨au,aR⟩:=RF ad fz
 rw[Bool.eq_iff_iff]
 simp only[bne_iff_ne,ne_eq]
 rw[aa,au]
end Go.aN
namespace Go.aN
open Go Go.eg
def nS(B d:Nat):Nat:=(B*2^d%2^64) ||| 1
theorem zbr(B d:Nat):nS B d<18446744073709551616:=za8 (Nat.mod_lt _ (by decide)) (by decide)
theorem zbs{B d k:Nat}(aa:1≤k)(aj:k<64):(nS B d).testBit k=(decide (d≤k)&&B.testBit (k-d)):=by
 unfold nS
 rw[Nat.testBit_or,Nat.testBit_mod_two_pow,decide_eq_true aj,Bool.true_and,Nat.testBit_mul_two_pow]
 have:(1:Nat).testBit k=false:=by
  have:=Nat.testBit_two_pow (n:=0) (m:=k)
  rw[Nat.pow_zero]at this;rw[this];exact decide_eq_false (by omega)
 rw[this,Bool.or_false]
theorem zbt(P k:Nat):P%2^(k+1)=bif P.testBit k then(P%2^k) ||| 2^k else P%2^k:=by
 apply Nat.eq_of_testBit_eq
 intro j
 rw[Nat.testBit_mod_two_pow]
 cases kW:P.testBit k with
 |true=>
  rw[cond_true,Nat.testBit_or,Nat.testBit_mod_two_pow,Nat.testBit_two_pow]
  by_cases af:k=j
  ·subst af
   rw[kW];simp
  ·by_cases aq:j<k
   ·rw[decide_eq_true (show j<k+1 by omega),decide_eq_true aq,decide_eq_false af,Bool.or_false]
   ·rw[decide_eq_false (show ¬j<k+1 by omega),decide_eq_false aq,decide_eq_false af]
    rfl
 |false=>
  rw[cond_false,Nat.testBit_mod_two_pow]
  by_cases af:k=j
  ·subst af
   rw[kW];simp
  ·by_cases aq:j<k
   ·rw[decide_eq_true (show j<k+1 by omega),decide_eq_true aq]
   ·rw[decide_eq_false (show ¬j<k+1 by omega),decide_eq_false aq]
theorem RH{P:Nat}(kW:P<18446744073709551616){b:Int × Int→Step (cv × Bool) (Int × Int)}(ad: ∀k:Nat,1≤k→k≤63→∀R:Nat,R<18446744073709551616→b ((k:Int),(R:Int))= .bh (((k+1:Nat):Int),bif P.testBit k then((R ||| 2^k:Nat):Int)else(R:Int)))
 (he: ∀R:Int,b (64,R)= .cz (64,R)): ∀(m k f:Nat),1≤k→k+m=64→m<f→cJ b f ((k:Int),((P%2^k:Nat):Int))= .inr (64,(P:Int))
 |0,k,f+1,_,aj,_=>by
  have:k=64:=by omega
  subst this;rw[Nat.mod_eq_of_lt kW];exact y7 (he _)
 |m+1,k,f+1,aa,aj,hf=>by
  have fl:P%2^k<18446744073709551616:=Nat.lt_of_le_of_lt (Nat.mod_le _ _) kW
  have bk:=ad k aa (by omega) (P%2^k) fl
  have e:(bif P.testBit k then(((P%2^k) ||| 2^k:Nat):Int)else((P%2^k:Nat):Int))=((P%2^(k+1):Nat):Int):=by
   rw[zbt P k]
   cases P.testBit k<;>rfl
  rw[e]at bk;rw[y8 bk];exact RH kW ad he m (k+1) f (by omega) (by omega) (by omega)
theorem zbu(B d:Nat):B &&& 2^d=bif B.testBit d then 2^d else 0:=by
 apply Nat.eq_of_testBit_eq
 intro j
 rw[Nat.testBit_and,Nat.testBit_two_pow]
 by_cases af:d=j
 ·subst af
  rw[decide_eq_true rfl,Bool.and_true]
  cases fz:B.testBit d with
  |true=>rw[cond_true,Nat.testBit_two_pow,decide_eq_true rfl]
  |false=>rw[cond_false,Nat.zero_testBit]
 ·rw[decide_eq_false af,Bool.and_false]
  cases B.testBit d with
  |true=>rw[cond_true,Nat.testBit_two_pow,decide_eq_false af]
  |false=>rw[cond_false,Nat.zero_testBit]
theorem zbv{B d:Nat}(h:64≤d):nS B d=1:=by
 unfold nS
 have:B*2^d%2^64=0:=Nat.mod_eq_zero_of_dvd (Nat.dvd_mul_left_of_dvd (Nat.pow_dvd_pow 2 h) B)
 rw[this]
 rfl
theorem zbw{w:cv}(hw:yZ w)(n:Int):uD w n=rh w n:=by
  have ax:=RG hw
  obtain⟨B,ad,fz⟩:=hw;unfold uD rh;rw[ax];dsimp only
  cases c4:((oU w != 0)||decide (n<0))||decide (n>1099511627776)with
  |true=>rfl
  |false=>
    have zlU:=c4
    simp only[Bool.or_eq_false_iff,decide_eq_false_iff_not]at c4;obtain⟨⟨aa,ae⟩,au⟩:=c4
    have mi:=(RF ad fz).1.1 (jc aa)
    obtain⟨t1,t2⟩:=Ia (jc aa);rw[cond_false,Bool.false_or,hD (n:=w.top-64) (by omega) (by omega)]
    by_cases hn:n≤w.top
    · rw[decide_eq_true hn,cond_true,hD (n:=w.top-n) (by omega) (by omega)]
      obtain⟨d,hd⟩: ∃d:Nat,w.top-n=(d:Int):=⟨_,(Int.toNat_of_nonneg (by omega)).symm⟩
      rw[hd]
      by_cases nJ:d<64
      · rw[decide_eq_false (show ¬(d:Int)>63 by omega),cond_false,Bool.false_or,Dz ad,decide_eq_true (show 0≤(d:Int)∧(d:Int)≤63 by omega),Bool.true_and,Int.toNat_natCast,decide_eq_false (show ¬n≤w.top-64 by omega),cond_false,decide_eq_false (show ¬n>w.top by omega),cond_false,ad]
        have e:(bn .and .u64 (B:Int) (bn .shl .u64 (1:Int) (d:Int)) != 0)=B.testBit d:=by
          rw[RA nJ,Ry fz (Ij nJ),zbu]
          cases B.testBit d with
          |false=>rfl
          |true=>
            have:=Nat.two_pow_pos d
            rw[cond_true,bne_iff_ne];omega
        rw[e]
      · rw[decide_eq_true (show(d:Int)>63 by omega),cond_true,Bool.true_or,cond_true,decide_eq_true (show n≤w.top-64 by omega),cond_true]
    · rw[decide_eq_false hn,cond_false,decide_eq_false (show ¬n≤w.top-64 by omega),cond_false,decide_eq_true (show n>w.top by omega),cond_true,hD (n:=n-w.top) (by omega) (by omega)]
      obtain⟨d,hd⟩: ∃d:Nat,n-w.top=(d:Int):=⟨_,(Int.toNat_of_nonneg (by omega)).symm⟩
      have key:=RH (zbr B d) (b:=fun(aM:Int × Int)=>bif(decide (aM.1≤63))then(bif decide (w.top≥0)then(bif(decide (w.top≥0)&&lH w (IntKind.wrap .i64 (w.top-(IntKind.wrap .i64 (n-aM.1)))))then .bh ((IntKind.wrap .i64 (aM.1+(1:Int))),(bn .or .u64 aM.2 (bn .shl .u64 (1:Int) aM.1)))else .bh ((IntKind.wrap .i64 (aM.1+(1:Int))),aM.2))
          else(bif(decide (w.top≥0)&&false)then .bh ((IntKind.wrap .i64 (aM.1+(1:Int))),(bn .or .u64 aM.2 (bn .shl .u64 (1:Int) aM.1)))else .bh ((IntKind.wrap .i64 (aM.1+(1:Int))),aM.2)))else .cz (aM.1,aM.2)) (fun k eT zlV R fl=>by
        have Io:k<64:=by omega
        simp only;rw[decide_eq_true (show(k:Int)≤63 by omega),cond_true,hD (n:=n-(k:Int)) (by omega) (by omega),hD (n:=w.top-(n-(k:Int))) (by omega) (by omega),hD (n:=(k:Int)+1) (by omega) (by omega),Dz ad,zbs eT Io,RA Io,Rx fl (Ij Io)]
        by_cases aH:w.top≥0
        · rw[decide_eq_true aH,cond_true,Bool.true_and]
          by_cases zb:d≤k
          · rw[decide_eq_true (show 0≤w.top-(n-(k:Int))∧w.top-(n-(k:Int))≤63 by omega),decide_eq_true zb,show Int.toNat (w.top-(n-(k:Int)))=k-d by omega,Bool.true_and]
            cases B.testBit (k-d)<;>rfl
          · rw[decide_eq_false (show ¬(0≤w.top-(n-(k:Int))∧w.top-(n-(k:Int))≤63)by omega),decide_eq_false zb]
            rfl
        · rw[decide_eq_false aH]
          have Im:B=0:=by
            rcases mi with⟨_,h⟩|⟨h,_⟩
            · exact h
            · exact absurd h aH
          have aT:(decide (d≤k)&&B.testBit (k-d))=false:=by rw[Im,Nat.zero_testBit,Bool.and_false]
          rw[aT]
          rfl) (fun R=>rfl) 63 1 dk (by omega) (by omega) (by decide)
      have aB:((nS B d%2^1:Nat):Int)=1:=by
        have:nS B d%2=1:=by
          have aJ:=za9 (B*2^d%2^64)
          rw[Nat.testBit_zero]at aJ;exact of_decide_eq_true aJ
        rw[Nat.pow_one,this];rfl
      rw[aB]at key
      have key:cJ _ dk ((1:Int),(1:Int))=_:=key
      rw[key];show((⟨n,((nS B d:Nat):Int)⟩:cv),true)=_;rw[hd]
      by_cases nJ:d<64
      · rw[decide_eq_true (show(d:Int)<64 by omega),cond_true,ad,Rz B d nJ]
        have aq:B*2^d%2^64<18446744073709551616:=Nat.mod_lt _ (by decide)
        have bl:bn .or .u64 ((B*2^d%2^64:Nat):Int) 1=((B*2^d%2^64 ||| 1:Nat):Int):=Rx aq (show 1<18446744073709551616 by decide)
        rw[bl];rfl
      · rw[decide_eq_false (show ¬(d:Int)<64 by omega),cond_false,zbv (by omega)]
        rfl
theorem DA(w:cv)(z:Int):wZ w z:=by
 intro h
 simp only[Bool.and_eq_true,decide_eq_true_eq]at h
 exact h.1
theorem zbx(w:cv):DB w:=by
 unfold DB
 extract_lets bw bx aI
 have J: ∀z,aI z:=by
  intro z _;refine⟨fun d=>0≤d∧d≤64,fun d=>(64-d).toNat,⟨by decide,by decide⟩,by decide,fun d hd h=>⟨DA _ _,fun _=>?_⟩⟩
  obtain⟨d1,d2⟩:=hd
  have h:=of_decide_eq_true h
  rw[hD (by omega) (by omega)]
  exact⟨⟨by omega,by omega⟩,by show(64-(d+1)).toNat<(64-d).toNat;omega⟩
 exact⟨fun _=>J _,fun _=>⟨fun _=>⟨DA _ _,J _⟩,fun _=>J _⟩⟩
theorem zby{w:cv}(hw:yZ w)(n:Int):Ip w n:=by
 refine⟨zbx w,fun c4=>?_⟩
 rw[RG hw]at c4
 simp only[Bool.or_eq_false_iff,decide_eq_false_iff_not]at c4
 obtain⟨⟨aa,ae⟩,au⟩:=c4
 obtain⟨t1,t2⟩:=Ia (jc aa)
 refine⟨fun hn=>?_,fun hn=>?_⟩
 ·have hn:=of_decide_eq_true hn
  have key:0≤IntKind.wrap .i64 (w.top-n):=by rw[hD (by omega) (by omega)];omega
  exact⟨fun _ _=>key,fun _=>⟨DA _ _,fun _=>key⟩⟩
 ·refine⟨fun d=>1≤d.1∧d.1≤64,fun d=>(64-d.1).toNat,⟨by decide,by decide⟩,by decide,fun d hd h=>?_⟩
  obtain⟨d1,d2⟩:=hd
  have h:=of_decide_eq_true h
  have J: ∀z:Int,(1≤IntKind.wrap .i64 (d.1+1)∧IntKind.wrap .i64 (d.1+1)≤64)∧(64-IntKind.wrap .i64 (d.1+1)).toNat<(64-d.1).toNat:=fun z=>by
   rw[hD (by omega) (by omega)]
   omega
  exact⟨fun _=>⟨DA _ _,fun _=>⟨by omega,J 0⟩,fun _=>J 0⟩,fun _=>⟨fun _=>⟨by omega,J 0⟩,fun _=>J 0⟩⟩
end Go.aN
