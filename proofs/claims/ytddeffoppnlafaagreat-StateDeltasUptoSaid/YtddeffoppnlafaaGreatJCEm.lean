/- Conditions: none. -/
import Derived.Test.YtddeffoppnlafaaGreatJCEe
open Bool renaming and_eq_true->zZr,not_eq_true'->zZb,or_eq_true->zZg
open List renaming all_eq_true->zZ2,getD_eq_getElem?_getD->zZe,getElem?_eq_getElem->zZa,getElem?_eq_some_iff->zZ1,mem_cons->zZf,mem_range->zZd,size_toArray->zZc
open Nat renaming beq->zZu,beq_refl->zZh,land->zZm,lor->zZk,shiftRight->zZl,testBit_and->zZi,testBit_or->zZj,zero_add->zZ0
namespace Go.aH
open Go
def oz(i:Nat):Nat:=Nat.shiftLeft 1 i
def AT(M i:Nat):Bool:=zZu (zZm (zZl M i) 1) 1
def wO(p M:Nat):Bool:=zZu (zZm p M) p
theorem M0{i j:Nat}:(oz i).testBit j=decide (i=j):=by
 show(1 <<< i).testBit j=_;rw[Nat.shiftLeft_eq,Nat.one_mul,Nat.testBit_two_pow]
theorem wP{M i j:Nat}:(zZk M (oz i)).testBit j=(M.testBit j||decide (i=j)):=by
 show(M ||| oz i).testBit j=_
 rw[zZj,M0]
theorem HM{M i:Nat}:AT M i=M.testBit i:=by
 have h:zZm (zZl M i) 1=M/ 2^i%2:=by
  show(M >>> i) &&& 1=_;rw[Nat.and_one_is_mod,Nat.shiftRight_eq_div_pow]
 rw[Nat.testBit_eq_decide_div_mod_eq];unfold AT;rw[h];generalize M/ 2^i%2=x
 by_cases hx:x=1
 ·subst hx;rfl
 ·simp only[hx,decide_false]
  cases af:zZu x 1 with
  |false=>rfl|true=>exact absurd (e9 af) hx
theorem HN{p M:Nat}:wO p M=true↔∀i,p.testBit i=true->M.testBit i=true:=by
 unfold wO;constructor
 ·intro h i hi
  have h:=e9 h;have:=congrArg (λx=>Nat.testBit x i) h;have ae:(zZm p M).testBit i=(p.testBit i&&M.testBit i):=zZi p M i;have this:(zZm p M).testBit i=p.testBit i:=this;rw[ae,hi,Bool.true_and]at this;exact this
 ·intro h
  have:zZm p M=p:=by
   apply Nat.eq_of_testBit_eq;intro i;have ae:(zZm p M).testBit i=(p.testBit i&&M.testBit i):=zZi p M i;rw[ae]
   cases ar:p.testBit i with
   |false=>rfl|true=>rw[h i ar];rfl
  rw[this];exact zZh p
theorem zd0{p D:Nat}(h:zZu (zZm p D) 0=false): ∃i,p.testBit i=true/\D.testBit i=true:=by
 have aP:zZm p D≠0:=wy h;obtain⟨i,hi⟩:=Nat.exists_testBit_of_ne_zero aP;have ae:(zZm p D).testBit i=(p.testBit i&&D.testBit i):=zZi p D i;rw[ae,zZr]at hi;exact⟨i,hi⟩
def HO{β:Type}(n:Nat)(k:Nat->β):β:=match n with
 |0=>k 0|m+1=>k (m+1)
theorem M1{β:Type}(n:Nat)(k:Nat->β):HO n k=k n:=by cases n<;>rfl
def tz:List Edge->Nat->Nat
 |[],p=>p|e::r,p=>match Region.binds .any e with
  |true=>tz r (zZk p (oz e.on))|false=>tz r p
theorem AU{i:Nat}: ∀{l:List Edge} {p:Nat},(tz l p).testBit i=true↔p.testBit i=true\/∃e∈l,Region.binds .any e=true/\e.on=i
 |[],p=>by simp[tz]|e::r,p=>by
  unfold tz
  cases af:Region.binds .any e with
  |true=>
   simp only;rw[AU,wP];simp only[zZg,decide_eq_true_eq,zZf,exists_eq_or_imp,af,true_and];exact or_assoc
  |false=>
   simp only;rw[AU];simp only[zZf,exists_eq_or_imp,af,Bool.false_eq_true,false_and,false_or]
abbrev Info:=List (Nat × (Nat × Oper))
def iG:List Oper->Nat->Info
 |[],_=>[]|o::r,i=>(i,(tz o.after.toList 0,o))::iG r (i+1)
theorem AV{j p:Nat}{o:Oper}: ∀{l:List Oper} {k:Nat},(j,(p,o))∈iG l k↔∃d,j=k+d/\l[d]? =some o/\p=tz o.after.toList 0
 |[],k=>by simp[iG]|x::r,k=>by
  simp only[iG,zZf,AV,Prod.mk.injEq];constructor
  ·rintro (⟨rfl,rfl,rfl⟩|⟨d,aa,ae,aw⟩)
   ·exact⟨0,rfl,rfl,rfl⟩
   ·exact⟨d+1,by omega,by simpa using ae,aw⟩
  ·rintro⟨d,aa,ae,aw⟩
   cases d with
   |zero=>
    simp at ae;subst ae;exact .inl ⟨aa,aw,rfl⟩
   |succ d=>exact .inr ⟨d,by omega,by simpa using ae,aw⟩
def pW(M:Nat):Info->List (Nat × Oper)
 |[]=>[]|(i,(p,o))::r=>match AT M i with
  |true=>pW M r|false=>match wO p M with
   |true=>(i,o)::pW M r|false=>pW M r
theorem AW{M j:Nat}{o:Oper}: ∀{I:Info},(j,o)∈pW M I↔∃p,(j,(p,o))∈I/\M.testBit j=false/\wO p M=true
 |[]=>by simp[pW]|(i,(q,x))::r=>by
  unfold pW;rw[HM]
  cases af:M.testBit i with
  |true=>
   simp only;rw[AW];constructor
   ·rintro⟨p,aa,ae⟩;exact⟨p,.tail _ aa,ae⟩
   ·rintro⟨p,aa,ae⟩
    rcases zZf.1 aa with aa|aa
    ·cases aa;rw[af]at ae;cases ae.1
    ·exact⟨p,aa,ae⟩
  |false=>
   simp only
   cases ao:wO q M with
   |true=>
    simp only[zZf,AW];constructor
    ·rintro (h|⟨p,aa,ae⟩)
     ·cases h;exact⟨q,.inl rfl,af,ao⟩
     ·exact⟨p,.inr aa,ae⟩
    ·rintro⟨p,aa,ae⟩
     rcases aa with aa|aa
     ·cases aa;exact .inl rfl
     ·exact .inr ⟨p,aa,ae⟩
   |false=>
    simp only;rw[AW];constructor
    ·rintro⟨p,aa,ae⟩;exact⟨p,.tail _ aa,ae⟩
    ·rintro⟨p,aa,ae⟩
     rcases zZf.1 aa with aa|aa
     ·cases aa;rw[ao]at ae;cases ae.2
     ·exact⟨p,aa,ae⟩
def pX(M:Nat)(m:List Bool):Prop:=∀i,M.testBit i=m.getD i false
theorem pX.set{M j:Nat}{m:List Bool}(h:pX M m)(aj:j<m.length):pX (zZk M (oz j)) (m.set j true):=λi=>by
 rw[wP,h i];simp only[zZe,List.getElem?_set]
 by_cases o9:j=i
 ·subst o9
  simp[aj]
 ·simp[o9]
section
variable {L:List Oper} {M:Nat} {m:List Bool}
theorem pX.at(h:pX M m)(au:m.length=L.length){j:Nat}(aj:j<L.length):m.toArray.getD j true=M.testBit j:=by
 rw[h j];have pY:j<m.length:=by omega
 simp[Array.getD,zZe,pY]
theorem DR(h:pX M m)(au:m.length=L.length){j:Nat}:j∈Region.ready .any L.toArray m.toArray↔∃o,(j,o)∈pW M (iG L 0):=by
 unfold Region.ready;simp only[List.mem_filter,zZd,zZc,zZr,zZb]
 have ai: ∀k:Nat,m.toArray.getD k false=m.getD k false:=λk=>by
  rw[Array.getD_eq_getD_getElem?,zZe];simp
 have ar: ∀o:Oper,wO (tz o.after.toList 0) M=true↔(o.after.all λe=>!Region.binds .any e||m.toArray.getD e.on false)=true:=λo=>by
  rw[HN,Array.all_eq_true'];constructor
  ·intro g e he
   cases af:Region.binds .any e with
   |false=>rfl|true=>
    have:=g e.on (AU.2 (.inr ⟨e,by simpa using he,af,rfl⟩))
    rw[h]at this;rw[ai,this];rfl
  ·intro g i hi
   rcases AU.1 hi with hi|⟨e,he,af,rfl⟩
   ·simp at hi
   ·have:=g e (by simpa using he)
    rw[af,ai]at this;rw[h];simpa using this
 constructor
 ·rintro⟨aa,ae,aw⟩
  rw[h.at au aa]at ae;have av:L[j]? =some L[j]:=zZa aa;refine⟨L[j],AW.2 ⟨_,AV.2 ⟨j,by omega,av,rfl⟩,ae,(ar _).2 ?_⟩⟩
  simpa[av]using aw
 ·rintro⟨o,av⟩
  obtain⟨p,aa,ae,aw⟩:=AW.1 av;obtain⟨d,rfl,aN,rfl⟩:=AV.1 aa;rw[zZ0]at*;have hd:d<L.length:=(zZ1.1 aN).1;refine⟨hd,by rw[h.at au hd];exact ae,?_⟩
  have:=(ar o).1 aw;simpa[aN]using this
def r1(t:Nat):Info->Nat->Nat
 |[],D=>D|(i,(_,o))::r,D=>match o.dst with
  |some d=>match zZu d t with
   |true=>r1 t r (zZk D (oz i))|false=>r1 t r D
  |none=>r1 t r D
theorem HP{t j:Nat}: ∀{I:Info} {D:Nat},D.testBit j=true->(r1 t I D).testBit j=true
 |[],D,h=>h|(i,(_,o))::r,D,h=>by
  unfold r1
  split
  ·split
   ·exact HP (by rw[wP,h];rfl)
   ·exact HP h
  ·exact HP h
theorem AX{t j p:Nat}{o:Oper}(hd:o.dst=some t): ∀{I:Info} {D:Nat},(j,(p,o))∈I->(r1 t I D).testBit j=true
 |(i,(q,x))::r,D,h=>by
  unfold r1
  rcases zZf.1 h with h|h
  ·cases h
   rw[hd];simp only;have:zZu t t=true:=zZh t;rw[this];exact HP (by rw[wP];simp)
  ·split
   ·split
    ·exact AX hd h
    ·exact AX hd h
   ·exact AX hd h
def yt(L:Array Oper)(I:Info):Info->Bool
 |[]=>true|(i,(p,o))::r=>match(o.looksAt L).all (λt=>wO (r1 t I 0) p)with
  |true=>match(match o.dst with
   |some d=>zZu (r1 d I 0) (oz i)
   |none=>true)with
   |true=>yt L I r|false=>false
  |false=>false
theorem M3{A:Array Oper}{I:Info}{i p:Nat}{o:Oper}: ∀{J:Info},yt A I J=true->(i,(p,o))∈J->(∀t∈o.looksAt A,∀j,(r1 t I 0).testBit j=true->p.testBit j=true)/\∀d,o.dst=some d->∀j,(r1 d I 0).testBit j=true->j=i
 |(k,(q,x))::r,h,hm=>by
  unfold yt at h
  split at h
  ·rename_i aa
   split at h
   ·rename_i ae
    rcases zZf.1 hm with hm|hm
    ·cases hm
     refine⟨λt aJ j aj=>HN.1 (zZ2.1 aa t aJ) j aj,λd hd j aj=>?_⟩;rw[hd]at ae;rw[e9 ae,M0]at aj;exact(of_decide_eq_true aj).symm
    ·exact M3 h hm
   ·cases h
  ·cases h
theorem HQ(ao:yt L.toArray (iG L 0) (iG L 0)=true)(h:pX M m)(au:m.length=L.length){i:Nat}{o:Oper}(hi:(i,o)∈pW M (iG L 0)):L[i]? =some o/\Region.free .any L.toArray m.toArray i=true:=by
 obtain⟨p,aa,ae,aw⟩:=AW.1 hi;obtain⟨s1,s2⟩:=M3 ao aa;obtain⟨d,hd,aN,rfl⟩:=AV.1 aa;rw[zZ0]at hd;subst hd;refine⟨aN,?_⟩;unfold Region.free;have pZ:L.toArray[i]? =some o:=by simpa using aN
 rw[pZ];simp only[zZ2,zZd,zZc,zZg,beq_iff_eq];intro j aj
 by_cases kB:j=i
 ·exact .inl (.inl kB)
 ·rw[h.at au aj]
  cases gx:M.testBit j with
  |true=>exact .inl (.inr rfl)|false=>
   refine .inr ?_;have av:L[j]? =some L[j]:=zZa aj;have l6:L.toArray[j]? =some L[j]:=by simp[aj]
   rw[l6];simp only[zZg];generalize L[j]=x at av;have M4:(j,(tz x.after.toList 0,x))∈iG L 0:=AV.2 ⟨j,by omega,av,rfl⟩
   obtain⟨t1,t2⟩:=M3 ao M4
   by_cases hw:(tz x.after.toList 0).testBit i=true
   ·left
    rcases AU.1 hw with hw|⟨e,he,af,DS⟩
    ·simp at hw
    ·rw[Array.any_eq_true']
     exact⟨e,by simpa using he,by rw[af,DS];simp⟩
   ·right
    unfold Oper.apart;simp only[zZr];refine⟨?_,?_⟩
    ·cases Uk:o.dst with
     |none=>rfl|some d=>
      simp only[zZr,zZb];refine⟨?_,?_⟩
      ·cases hc:(x.looksAt L.toArray).contains d with
       |false=>rfl|true=>exact absurd (t1 d (by simpa using hc) i (AX Uk aa)) hw
      ·cases M5:x.dst with
       |none=>simp|some HR=>
        have:HR≠d:=λe=>by
         subst e;exact kB (s2 HR Uk j (AX M5 M4))
        simp[this]
    ·cases M5:x.dst with
     |none=>rfl|some d=>
      simp only[zZb]
      cases hc:(o.looksAt L.toArray).contains d with
      |false=>rfl|true=>
       have:=HN.1 aw j (s1 d (by simpa using hc) j (AX M5 M4))
       rw[gx]at this
       cases this
def tA(M:Nat):Info->Nat->Nat
 |[],D=>D|(j,(p,_))::r,D=>match AT M j with
  |true=>tA M r D|false=>match zZu (zZm p D) 0 with
   |true=>tA M r D|false=>tA M r (zZk D (oz j))
theorem HS{j:Nat}: ∀{I:Info} {D:Nat},D.testBit j=true->(tA M I D).testBit j=true
 |[],D,h=>h|(i,(p,o))::r,D,h=>by
  unfold tA
  split
  ·exact HS h
  ·split
   ·exact HS h
   ·exact HS (by rw[wP,h];rfl)
theorem HT{j:Nat}: ∀{I:Info} {D:Nat},(tA M I D).testBit j=true->D.testBit j=true\/(M.testBit j=false/\∃p o,(j,(p,o))∈I/\∃k,p.testBit k=true/\(tA M I D).testBit k=true)
 |[],D,h=>.inl h|(i,(p,o))::r,D,h=>by
  unfold tA at h⊢;rw[HM]at h⊢
  cases af:M.testBit i with
  |true=>
   rw[af]at h;simp only at h⊢
   rcases HT h with h|⟨aa,q,x,ae,aw⟩
   ·exact .inl h
   ·exact .inr ⟨aa,q,x,.tail _ ae,aw⟩
  |false=>
   rw[af]at h;simp only at h⊢
   cases hm:zZu (zZm p D) 0 with
   |true=>
    rw[hm]at h;simp only at h⊢
    rcases HT h with h|⟨aa,q,x,ae,aw⟩
    ·exact .inl h
    ·exact .inr ⟨aa,q,x,.tail _ ae,aw⟩
   |false=>
    rw[hm]at h;simp only at h⊢
    rcases HT h with h|⟨aa,q,x,ae,aw⟩
    ·rw[wP,zZg,decide_eq_true_eq]at h
     rcases h with h|rfl
     ·exact .inl h
     ·obtain⟨k,eG,eO⟩:=zd0 hm
      exact .inr ⟨af,p,o,.head _,k,eG,HS (by rw[wP,eO];rfl)⟩
    ·exact .inr ⟨aa,q,x,.tail _ ae,aw⟩
def HU(I:Info)(W M i:Nat):Bool:=wO W (zZk M (tA M I (oz i)))
section
variable {P:Program} {G:aV} {Q:Exit->aS->Prop} {wr:List Bool} {W:Nat}
theorem fg.oA{fuel:Nat}{s s':aS}(i:Nat){o:Oper}(gx:pX M m)(au:m.length=L.length)(mH:pX W wr)(hi:(i,o)∈pW M (iG L 0))(ao:yt L.toArray (iG L 0) (iG L 0)=true)(ar:jW P G L.toArray o s s')(k:fg P G L Q wr fuel (m.set i true) s')(l7:Region.noSelect L.toArray=true)
 (wQ:wr.getD i false=false)(hw:HU (iG L 0) W M i=true):fg P G L Q wr (fuel+1) m s:=by
 intro E a w dO;obtain⟨av,hf⟩:=HQ ao gx au hi;obtain⟨v,az,yu⟩:=ar E a w dO;have Ul:=HN.1 hw;generalize kA:tA M (iG L 0) (oz i)=D at Ul
 have zd1: ∀j,D.testBit j=true->j=i\/(M.testBit j=false/\∃p o,(j,(p,o))∈iG L 0/\∃k,p.testBit k=true/\D.testBit k=true):=λj aj=>by
  rw[<-kA]at aj⊢
  rcases HT aj with h|h
  ·rw[M0]at h
   exact .inl (of_decide_eq_true h).symm
  ·exact .inr h
 refine Um (i:=i) (oi:=o) (v:=v) (by simpa using av) (by simpa using wQ) (Region.noSelect_spec l7) (λc a w aB=>?_) (λj=>D.testBit j=true/\j≠i) fuel m.toArray a w (Region.free_spec (by simpa using av) hf) (λj jE nN wR kX=>?_) (λj aj=>?_) ((DR gx au).2 ⟨o,hi⟩) az (gR.refl w) (by simpa using k E _ w yu)
 ·obtain⟨_,⟨h,_⟩,_⟩:=aB
  cases h
 ·have dv:j<L.length:=by simpa using (Array.getElem?_eq_some_iff.1 nN).1
  rw[gx.at au dv]at kX;have:=Ul j (by rw[mH j];simpa using wR)
  have ae:(zZk M D).testBit j=(M.testBit j||D.testBit j):=zZj M D j
  rw[ae,kX,Bool.false_or]at this;exact⟨this,λe=>by subst e;rw[wQ]at wR;cases wR⟩
 ·rcases zd1 j aj.1 with h|⟨aa,p,x,ae,k,eG,eO⟩
  ·exact absurd h aj.2
  ·obtain⟨d,hd,aw,rfl⟩:=AV.1 ae
   rw[zZ0]at hd;subst hd;have dv:j<L.length:=(zZ1.1 aw).1;refine⟨by rw[gx.at au dv];exact aa,aj.2,x,by simpa using aw,?_⟩
   rcases AU.1 eG with eG|⟨e,he,af,DS⟩
   ·simp at eG
   ·refine⟨e,by simpa using he,af,?_⟩
    by_cases bT:k=i
    ·exact .inl (DS.trans bT)
    ·exact .inr ⟨by rw[DS];exact eO,by rw[DS];exact bT⟩
end
end
def yv(P:Program):Info->Nat->Nat
 |[],W=>W|(i,(_,o))::r,W=>match Dv P o with
  |true=>yv P r (zZk W (oz i))|false=>yv P r W
theorem M6{P:Program}{j:Nat}: ∀{l:List Oper} {k W:Nat},(yv P (iG l k) W).testBit j=(W.testBit j||(decide (k<=j)&&(l.map (Dv P)).getD (j-k) false))
 |[],k,W=>by simp[iG,yv]|o::r,k,W=>by
  simp only[iG,yv]
  cases hw:Dv P o with
  |true=>
   simp only;rw[M6,wP]
   by_cases aa:k=j
   ·subst aa
    simp[hw]
   ·by_cases ae:k<=j
    ·have aw:j-k=(j-(k+1))+1:=by omega
     have aN:k+1<=j:=by omega
     rw[aw];simp[aa,ae,aN]
    ·have aN: ¬k+1<=j:=by omega
     simp[aa,ae,aN]
  |false=>
   simp only;rw[M6]
   by_cases aa:k=j
   ·subst aa
    have aN: ¬k+1<=k:=by omega
    simp[hw,aN]
   ·by_cases ae:k<=j
    ·have aw:j-k=(j-(k+1))+1:=by omega
     have aN:k+1<=j:=by omega
     rw[aw];simp[ae,aN]
    ·have aN: ¬k+1<=j:=by omega
     simp[ae,aN]
theorem zd2{P:Program}{L:List Oper}:pX (yv P (iG L 0) 0) (L.map (Dv P)):=λi=>by
 rw[M6];simp
def yw(P:Program)(G:aV)(L:Array Oper)(I:Info)(W M:Nat)(S:bS):List (Nat × Oper)->Option (Nat × bS)
 |[]=>none|(j,o)::r=>match AT W j with
  |true=>yw P G L I W M S r|false=>match MF P G L o S with
   |some (true,aM)=>some (j,aM)|some (false,aM)=>match HU I W M j with
    |true=>some (j,aM)|false=>yw P G L I W M S r
   |none=>yw P G L I W M S r
def HV(P:Program)(G:aV)(bX:fB)(L:Array Oper)(W M:Nat)(S:bS):List (Nat × Oper)->Option (List (Nat × bS))
 |[]=>some []|(j,o)::r=>match Hw P o S with
  |S0=>match AT W j|| !(ME P G L o S0),AI P G bX L o S0,HV P G bX L W M S r with
   |true,some aM,some l=>HO (zZk M (oz j)) λuZ=>some ((uZ,aM)::l)
   |_,_,_=>none
def M7(P:Program)(G:aV)(bX:fB)(L:Array Oper)(I:Info)(W M:Nat)(S:bS):Option (List (Nat × bS)):=
 match pW M I with
 |[]=>none|q::rd=>match yw P G L I W M S (q::rd)with
  |some (j,aM)=>HO (zZk M (oz j)) λuZ=>some [(uZ,aM)]
  |none=>HV P G bX L W M S (q::rd)
def HW(n0:Nat)(ops:List Oper)(M:Nat)(S:bS):List (Nat × bS)->Option (List (Nat × bS))
 |[]=>some [(M,S)]|(uZ,bV)::r=>match zZu uZ M with
  |true=>match Hv S bV with
   |true=>some ((uZ,bV)::r)|false=>match Hv (canon n0 ops S) (canon n0 ops bV)with
    |true=>some ((uZ,canon n0 ops bV)::r)|false=>none
  |false=>match HW n0 ops M S r with
   |some e5=>some ((uZ,bV)::e5)|none=>none
def HX(n0:Nat)(ops:List Oper):List (Nat × bS)->List (Nat × bS)->Option (List (Nat × bS))
 |[],l=>some l|(M,S)::r,l=>match HW n0 ops M S l with
  |some dF=>HX n0 ops r dF|none=>none
def HY(P:Program)(G:aV)(bX:fB)(L:Array Oper)(I:Info)(W n0:Nat):List (Nat × bS)->List (Nat × bS)->Option (List (Nat × bS))
 |[],acc=>some acc|(M,S)::r,acc=>match M7 P G bX L I W M S with
  |some l=>match HX n0 L.toList l acc with
   |some zd3=>HY P G bX L I W n0 r zd3|none=>none
  |none=>none
def HZ(P:Program)(G:aV)(bX:fB)(L:Array Oper)(I:Info)(W n0:Nat):Nat->List (Nat × bS)->Option (List (Nat × bS))
 |0,l=>some l|n+1,l=>match HY P G bX L I W n0 l []with
  |some dF=>HZ P G bX L I W n0 n dF|none=>none
def MH(P:Program)(G:aV)(bX:fB)(ops:Array Oper)(S:bS):Option bS:=
 match(P.follows .mixedOrders&&Region.noSelect ops)&&yt ops (iG ops.toList 0) (iG ops.toList 0)with
 |true=>HO (yv P (iG ops.toList 0) 0) λW=>match HZ P G bX ops (iG ops.toList 0) W S.n ops.size [(0,S)]with
  |some [(M,aM)]=>match pW M (iG ops.toList 0)with
   |[]=>some (canon S.n ops.toList aM)|_=>none
  |_=>none
 |false=>none
section
variable {P:Program} {G:aV} {bX:fB} {ops:Array Oper} {S bV:bS}
theorem Un{L:Array Oper}{I:Info}{W M:Nat}: ∀{l:List (Nat × Oper)} {j:Nat} {bV:bS},yw P G L I W M S l=some (j,bV)->∃o,(j,o)∈l/\W.testBit j=false/\(hC P G L o S.den bV.den\/(jW P G L o S.den bV.den/\HU I W M j=true))
 |(i,o)::r,j,bV,h=>by
  have M8:yw P G L I W M S r=some (j,bV)->∃ct,(j,ct)∈(i,o)::r/\W.testBit j=false/\(hC P G L ct S.den bV.den\/(jW P G L ct S.den bV.den/\HU I W M j=true)):=λh=>by
   obtain⟨ct,aa,ae⟩:=Un h;exact⟨ct,.tail _ aa,ae⟩
  unfold yw at h;rw[HM]at h
  split at h
  ·exact M8 h
  ·rename_i af
   split at h
   ·rename_i aM an
    cases h
    rcases T4 an with⟨_,ar⟩|⟨af,_⟩
    ·exact⟨o,.head _,af,.inl ar⟩
    ·cases af
   ·rename_i aM an
    split at h
    ·rename_i hd
     cases h
     rcases T4 an with⟨af,_⟩|⟨_,ar⟩
     ·cases af
     ·exact⟨o,.head _,af,.inr ⟨ar,hd⟩⟩
    ·exact M8 h
   ·exact M8 h
theorem Uo(fv:ia P G bX){L:Array Oper}{W M:Nat}: ∀{l:List (Nat × Oper)} {r:List (Nat × bS)},HV P G bX L W M S l=some r->∀j o,(j,o)∈l->∃aM,(zZk M (oz j),aM)∈r/\∃b,(b=true->W.testBit j=true)/\uV P G L o b S.den aM.den
 |[],_,_,j,o,h=>by cases h
 |(i,x)::q,r,h,j,o,hm=>by
  unfold HV at h;generalize zd4:Hw P x S=S0 at h;simp only at h
  split at h
  ·rename_i aM l hw hc au
   rw[M1]at h;cases h;subst zd4
   rcases zZf.1 hm with hm|hm
   ·cases hm
    refine⟨aM,.head _,_,λaf=>?_,(T3 fv hc).le (zdE _ _ _)⟩;rw[af,HM]at hw;simpa using hw
   ·obtain⟨dC,aa,ae⟩:=Uo fv au j o hm
    exact⟨dC,.tail _ aa,ae⟩
  ·cases h
theorem Up{n0 M:Nat}{ops:List Oper}{S:bS}: ∀{l dF:List (Nat × bS)},HW n0 ops M S l=some dF->(∃T,(M,T)∈dF/\b5 S.den T.den)/\∀kY aM,(kY,aM)∈l->∃T,(kY,T)∈dF/\b5 aM.den T.den
 |[],dF,h=>by
  cases h;exact⟨⟨S,.head _,b5.refl _⟩,λ_ _ h=>by cases h⟩
 |(uZ,bV)::r,dF,h=>by
  unfold HW at h
  split at h
  ·rename_i af
   have:=e9 af;subst this
   split at h
   ·rename_i he
    cases h
    have:=T2 he;subst this;exact⟨⟨S,.head _,b5.refl _⟩,λkY aM aa=>⟨aM,aa,b5.refl _⟩⟩
   ·split at h
    ·rename_i he
     cases h
     have he:=T2 he;refine⟨⟨_,.head _,by rw[<-he];exact M9 _ _ _⟩,λkY aM aa=>?_⟩
     rcases zZf.1 aa with aa|aa
     ·cases aa;exact⟨_,.head _,M9 _ _ _⟩
     ·exact⟨aM,.tail _ aa,b5.refl _⟩
    ·cases h
  ·split at h
   ·rename_i e5 ah
    cases h;obtain⟨⟨T,t1,t2⟩,ae⟩:=Up ah;refine⟨⟨T,.tail _ t1,t2⟩,λkY aM aa=>?_⟩
    rcases zZf.1 aa with aa|aa
    ·cases aa;exact⟨_,.head _,b5.refl _⟩
    ·obtain⟨T,t1,t2⟩:=ae kY aM aa
     exact⟨T,.tail _ t1,t2⟩
   ·cases h
theorem Uq{n0:Nat}{ops:List Oper}: ∀{k l dF:List (Nat × bS)},HX n0 ops k l=some dF->∀kY aM,(kY,aM)∈k\/(kY,aM)∈l->∃T,(kY,T)∈dF/\b5 aM.den T.den
 |[],l,dF,h,kY,aM,hm=>by
  cases h
  rcases hm with hm|hm
  ·cases hm
  ·exact⟨aM,hm,b5.refl _⟩
 |(M,S)::r,l,dF,h,kY,aM,hm=>by
  unfold HX at h
  split at h
  ·rename_i DT aa
   obtain⟨⟨T,t1,t2⟩,ae⟩:=Up aa;have aw:=Uq h
   rcases hm with hm|hm
   ·rcases zZf.1 hm with hm|hm
    ·cases hm
     obtain⟨tB,oB,r2⟩:=aw _ _ (.inr t1);exact⟨tB,oB,t2.trans r2⟩
    ·exact aw _ _ (.inl hm)
   ·obtain⟨T,t1,t2⟩:=ae _ _ hm
    obtain⟨tB,oB,r2⟩:=aw _ _ (.inr t1);exact⟨tB,oB,t2.trans r2⟩
  ·cases h
theorem Ur{L:Array Oper}{I:Info}{W n0:Nat}: ∀{l acc dF:List (Nat × bS)},HY P G bX L I W n0 l acc=some dF->(∀kY aM,(kY,aM)∈acc->∃T,(kY,T)∈dF/\b5 aM.den T.den)/\∀M S,(M,S)∈l->∃k,M7 P G bX L I W M S=some k/\∀kY aM,(kY,aM)∈k->∃T,(kY,T)∈dF/\b5 aM.den T.den
 |[],acc,dF,h=>by
  cases h;exact⟨λkY aM h=>⟨aM,h,b5.refl _⟩,λ_ _ h=>by cases h⟩
 |(M,S)::r,acc,dF,h=>by
  unfold HY at h
  split at h
  ·rename_i k an
   split at h
   ·rename_i zoE aa
    have ae:=Uq aa;obtain⟨aw,aN⟩:=Ur h;refine⟨λkY aM hm=>?_,λkY aM hm=>?_⟩
    ·obtain⟨T,t1,t2⟩:=ae _ _ (.inr hm)
     obtain⟨tB,oB,r2⟩:=aw _ _ t1;exact⟨tB,oB,t2.trans r2⟩
    ·rcases zZf.1 hm with hm|hm
     ·cases hm
      refine⟨k,an,λM2 dC hm=>?_⟩;obtain⟨T,t1,t2⟩:=ae _ _ (.inl hm);obtain⟨tB,oB,r2⟩:=aw _ _ t1;exact⟨tB,oB,t2.trans r2⟩
     ·exact aN _ _ hm
   ·cases h
  ·cases h
theorem Us(fv:ia P G bX){L:List Oper}{wr:List Bool}{W n0:Nat}(l7:Region.noSelect L.toArray=true)(ao:yt L.toArray (iG L 0) (iG L 0)=true)(mH:pX W wr){Q:Exit->aS->Prop}: ∀(n:Nat) {l dF:List (Nat × bS)},HZ P G bX L.toArray (iG L 0) W n0 n l=some dF->(∀M S,(M,S)∈dF->∀m,pX M m->m.length=L.length->fg P G L Q wr 0 m S.den)->∀M S,(M,S)∈l->∀m,pX M m->m.length=L.length->fg P G L Q wr n m S.den
 |0,l,dF,h,aB,M,S,hm,m,gx,au=>by
  cases h;exact aB M S hm m gx au
 |n+1,l,dF,h,aB,M,S,hm,m,gx,au=>by
  unfold HZ at h
  split at h
  ·rename_i DT aa
   have bb:=Us fv l7 ao mH n h aB;obtain⟨k,an,hn⟩:=(Ur aa).2 M S hm
   have bR: ∀{j:Nat} {o:Oper},(j,o)∈pW M (iG L 0)->j<m.length:=λ{j o} aj=>by
    have:=(HQ ao gx au aj).1;rw[au];exact(zZ1.1 this).1
   have eX: ∀j:Nat,(m.set j true).length=L.length:=λj=>by rw[List.length_set];exact au
   have Ut: ∀j o aM,(j,o)∈pW M (iG L 0)->(zZk M (oz j),aM)∈k->fg P G L Q wr n (m.set j true) aM.den:=λj o aM aj DU=>by
    obtain⟨T,t1,t2⟩:=hn _ _ DU;exact fg.le t2 (bb _ _ t1 _ (gx.set (bR aj)) (eX j))
   unfold M7 at an
   split at an
   ·cases an
   ·rename_i q rd ah
    rw[<-ah]at an
    split at an
    ·rename_i j aM DU
     rw[M1]at an;cases an;obtain⟨o,aa,aw,bx⟩:=Un DU;have H0:wr.getD j false=false:=by rw[<-mH j];exact aw
     have bb:=Ut j o aM aa (.head _)
     rcases bx with bx|⟨bx,cB⟩
     ·obtain⟨ae,aN⟩:=HQ ao gx au aa
      exact fg.Uu j ae bx bb l7 aN (by simpa using (DR gx au).2 ⟨o,aa⟩) H0
     ·exact fg.oA j gx au mH aa ao bx bb l7 H0 cB
    ·refine fg.zdD (λhn=>?_) λj aj=>?_
     ·have:q.1∈Region.ready .any L.toArray m.toArray:=(DR gx au).2 ⟨q.2,by rw[ah];exact List.mem_cons_self⟩
      rw[hn]at this
      cases this
     ·obtain⟨o,av⟩:=(DR gx au).1 aj
      obtain⟨aM,g1,b,g2,g3⟩:=Uo fv an j o av;exact⟨o,aM.den,(HQ ao gx au av).1,g3.wr (λaf=>by rw[<-mH j];exact g2 af),Ut j o aM av g1⟩
  ·cases h
theorem zdG(fv:ia P G bX){Q:Exit->aS->Prop}{id:Nat}(h:MH P G bX ops S=some bV)(aB:Q .normal bV.den):cb P G (.region id ops true) Q S.den:=by
 unfold MH at h
 split at h
 ·rename_i hc
  simp only[zZr]at hc;rw[M1]at h;have hQ:ops=ops.toList.toArray:=by simp
  rw[hQ]at h hc⊢;generalize ops.toList=L at h hc⊢;have b4:L.toArray.size=L.length:=by simp
  rw[b4]at h
  split at h
  ·rename_i M aM az
   split at h
   ·rename_i ah
    cases h;refine cb.Uv L.length (Us fv hc.1.2 hc.2 zd2 L.length az (λM2 dC hm m gx au=>?_) 0 S (.head _) (List.replicate L.length false) (λi=>by simp[zZe,List.getElem?_replicate];split<;>rfl) (by simp)) hc.1.1 (zZh _)
    cases List.mem_singleton.1 hm
    refine fg.le (M9 _ _ _) (fg.done aB (List.eq_nil_iff_forall_not_mem.2 λj aj=>?_));obtain⟨o,av⟩:=(DR gx au).1 aj;rw[ah]at av;cases av
   ·cases h
  ·cases h
 ·cases h
end
end Go.aH
