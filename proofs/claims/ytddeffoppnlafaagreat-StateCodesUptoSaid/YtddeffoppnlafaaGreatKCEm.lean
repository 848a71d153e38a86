/- CE, part M: regions of drawn order: what waits for what, as bits of numbers. Conditions: none. -/
import Derived.Test.YtddeffoppnlafaaGreatKCEe
namespace Go.aK
open Go
def mV(i:Nat):Nat:=Nat.shiftLeft 1 i
def yc(M i:Nat):Bool:=Nat.beq (Nat.land (Nat.shiftRight M i) 1) 1
def uB(p M:Nat):Bool:=Nat.beq (Nat.land p M) p
theorem JL{i j:Nat}:(mV i).testBit j=decide (i=j):=by
 show(1 <<< i).testBit j=_
 rw[Nat.shiftLeft_eq,Nat.one_mul,Nat.testBit_two_pow]
theorem uC{M i j:Nat}:(Nat.lor M (mV i)).testBit j=(M.testBit j||decide (i=j)):=by
 show(M ||| mV i).testBit j=_
 rw[Nat.testBit_or,JL]
theorem ET{M i:Nat}:yc M i=M.testBit i:=by
 have h:Nat.land (Nat.shiftRight M i) 1=M/ 2^i%2:=by
  show(M >>> i) &&& 1=_;rw[Nat.and_one_is_mod,Nat.shiftRight_eq_div_pow]
 rw[Nat.testBit_eq_decide_div_mod_eq]
 unfold yc
 rw[h]
 generalize M/ 2^i%2=x
 by_cases hx:x=1
 ·subst hx;rfl
 ·simp only[hx,decide_false]
  cases ag:Nat.beq x 1 with
  |false=>rfl
  |true=>exact absurd (eI ag) hx
theorem EU{p M:Nat}:uB p M=true↔∀i,p.testBit i=true→M.testBit i=true:=by
 unfold uB
 constructor
 ·intro h i hi
  have h:=eI h
  have:=congrArg (fun x=>Nat.testBit x i) h
  have ae:(Nat.land p M).testBit i=(p.testBit i&&M.testBit i):=Nat.testBit_and p M i
  have this:(Nat.land p M).testBit i=p.testBit i:=this
  rw[ae,hi,Bool.true_and]at this;exact this
 ·intro h
  have:Nat.land p M=p:=by
   apply Nat.eq_of_testBit_eq;intro i
   have ae:(Nat.land p M).testBit i=(p.testBit i&&M.testBit i):=Nat.testBit_and p M i
   rw[ae]
   cases ar:p.testBit i with
   |false=>rfl
   |true=>rw[h i ar];rfl
  rw[this];exact Nat.beq_refl p
theorem ZV{p D:Nat}(h:Nat.beq (Nat.land p D) 0=false): ∃i,p.testBit i=true∧D.testBit i=true:=by
 have aS:Nat.land p D≠0:=ug h
 obtain⟨i,hi⟩:=Nat.exists_testBit_of_ne_zero aS
 have ae:(Nat.land p D).testBit i=(p.testBit i&&D.testBit i):=Nat.testBit_and p D i
 rw[ae,Bool.and_eq_true]at hi
 exact⟨i,hi⟩
def EV{β:Type}(n:Nat)(k:Nat→β):β:=match n with
 |0=>k 0
 |m+1=>k (m+1)
theorem JM{β:Type}(n:Nat)(k:Nat→β):EV n k=k n:=by cases n<;>rfl
def rz:List Edge→Nat→Nat
 |[],p=>p
 |e::r,p=>match Region.binds .any e with
  |true=>rz r (Nat.lor p (mV e.on))
  |false=>rz r p
theorem yd{i:Nat}: ∀{l:List Edge} {p:Nat},(rz l p).testBit i=true↔p.testBit i=true∨∃e∈l,Region.binds .any e=true∧e.on=i
 |[],p=>by simp[rz]
 |e::r,p=>by
  unfold rz
  cases ag:Region.binds .any e with
  |true=>
   simp only;rw[yd,uC];simp only[Bool.or_eq_true,decide_eq_true_eq,List.mem_cons,exists_eq_or_imp,ag,true_and];exact or_assoc
  |false=>
   simp only;rw[yd];simp only[List.mem_cons,exists_eq_or_imp,ag,Bool.false_eq_true,false_and,false_or]
abbrev Info:=List (Nat × (Nat × Oper))
def hT:List Oper→Nat→Info
 |[],_=>[]
 |o::r,i=>(i,(rz o.after.toList 0,o))::hT r (i+1)
theorem ye{j p:Nat}{o:Oper}: ∀{l:List Oper} {k:Nat},(j,(p,o))∈hT l k↔∃d,j=k+d∧l[d]? =some o∧p=rz o.after.toList 0
 |[],k=>by simp[hT]
 |x::r,k=>by
  simp only[hT,List.mem_cons,ye,Prod.mk.injEq]
  constructor
  ·rintro (⟨rfl,rfl,rfl⟩|⟨d,ab,ae,aw⟩)
   ·exact⟨0,rfl,rfl,rfl⟩
   ·exact⟨d+1,by omega,by simpa using ae,aw⟩
  ·rintro⟨d,ab,ae,aw⟩
   cases d with
   |zero=>
    simp at ae;subst ae;exact .inl ⟨ab,aw,rfl⟩
   |succ d=>exact .inr ⟨d,by omega,by simpa using ae,aw⟩
def od(M:Nat):Info→List (Nat × Oper)
 |[]=>[]
 |(i,(p,o))::r=>match yc M i with
  |true=>od M r
  |false=>match uB p M with
   |true=>(i,o)::od M r
   |false=>od M r
theorem yf{M j:Nat}{o:Oper}: ∀{I:Info},(j,o)∈od M I↔∃p,(j,(p,o))∈I∧M.testBit j=false∧uB p M=true
 |[]=>by simp[od]
 |(i,(q,x))::r=>by
  unfold od;rw[ET]
  cases ag:M.testBit i with
  |true=>
   simp only;rw[yf]
   constructor
   ·rintro⟨p,ab,ae⟩;exact⟨p,.tail _ ab,ae⟩
   ·rintro⟨p,ab,ae⟩
    rcases List.mem_cons.1 ab with ab|ab
    ·cases ab;rw[ag]at ae;cases ae.1
    ·exact⟨p,ab,ae⟩
  |false=>
   simp only
   cases ao:uB q M with
   |true=>
    simp only[List.mem_cons,yf]
    constructor
    ·rintro (h|⟨p,ab,ae⟩)
     ·cases h;exact⟨q,.inl rfl,ag,ao⟩
     ·exact⟨p,.inr ab,ae⟩
    ·rintro⟨p,ab,ae⟩
     rcases ab with ab|ab
     ·cases ab;exact .inl rfl
     ·exact .inr ⟨p,ab,ae⟩
   |false=>
    simp only;rw[yf]
    constructor
    ·rintro⟨p,ab,ae⟩;exact⟨p,.tail _ ab,ae⟩
    ·rintro⟨p,ab,ae⟩
     rcases List.mem_cons.1 ab with ab|ab
     ·cases ab;rw[ao]at ae;cases ae.2
     ·exact⟨p,ab,ae⟩
def oe(M:Nat)(m:List Bool):Prop:=∀i,M.testBit i=m.getD i false
theorem oe.set{M j:Nat}{m:List Bool}(h:oe M m)(aj:j<m.length):oe (Nat.lor M (mV j)) (m.set j true):=fun i=>by
 rw[uC,h i]
 simp only[List.getD_eq_getElem?_getD,List.getElem?_set]
 by_cases nv:j=i
 ·subst nv
  simp[aj]
 ·simp[nv]
section
variable {L:List Oper} {M:Nat} {m:List Bool}
theorem oe.at(h:oe M m)(av:m.length=L.length){j:Nat}(aj:j<L.length):m.toArray.getD j true=M.testBit j:=by
 rw[h j]
 have og:j<m.length:=by omega
 simp[Array.getD,List.getD_eq_getElem?_getD,og]
theorem Bi(h:oe M m)(av:m.length=L.length){j:Nat}:j∈Region.ready .any L.toArray m.toArray↔∃o,(j,o)∈od M (hT L 0):=by
 unfold Region.ready
 simp only[List.mem_filter,List.mem_range,List.size_toArray,Bool.and_eq_true,Bool.not_eq_true']
 have ai: ∀k:Nat,m.toArray.getD k false=m.getD k false:=fun k=>by
  rw[Array.getD_eq_getD_getElem?,List.getD_eq_getElem?_getD]
  simp
 have ar: ∀o:Oper,uB (rz o.after.toList 0) M=true↔(o.after.all fun e=>!Region.binds .any e||m.toArray.getD e.on false)=true:=fun o=>by
  rw[EU,Array.all_eq_true']
  constructor
  ·intro g e he
   cases ag:Region.binds .any e with
   |false=>rfl
   |true=>
    have:=g e.on (yd.2 (.inr ⟨e,by simpa using he,ag,rfl⟩))
    rw[h]at this;rw[ai,this];rfl
  ·intro g i hi
   rcases yd.1 hi with hi|⟨e,he,ag,rfl⟩
   ·simp at hi
   ·have:=g e (by simpa using he)
    rw[ag,ai]at this;rw[h];simpa using this
 constructor
 ·rintro⟨ab,ae,aw⟩
  rw[h.at av ab]at ae
  have au:L[j]? =some L[j]:=List.getElem?_eq_getElem ab
  refine⟨L[j],yf.2 ⟨_,ye.2 ⟨j,by omega,au,rfl⟩,ae,(ar _).2 ?_⟩⟩
  simpa[au]using aw
 ·rintro⟨o,au⟩
  obtain⟨p,ab,ae,aw⟩:=yf.1 au;obtain⟨d,rfl,aM,rfl⟩:=ye.1 ab;rw[Nat.zero_add]at*
  have hd:d<L.length:=(List.getElem?_eq_some_iff.1 aM).1
  refine⟨hd,by rw[h.at av hd];exact ae,?_⟩
  have:=(ar o).1 aw
  simpa[aM]using this
def qf(t:Nat):Info→Nat→Nat
 |[],D=>D
 |(i,(_,o))::r,D=>match o.dst with
  |some d=>match Nat.beq d t with
   |true=>qf t r (Nat.lor D (mV i))
   |false=>qf t r D
  |none=>qf t r D
theorem EW{t j:Nat}: ∀{I:Info} {D:Nat},D.testBit j=true→(qf t I D).testBit j=true
 |[],D,h=>h
 |(i,(_,o))::r,D,h=>by
  unfold qf
  split
  ·split
   ·exact EW (by rw[uC,h];rfl)
   ·exact EW h
  ·exact EW h
theorem yg{t j p:Nat}{o:Oper}(hd:o.dst=some t): ∀{I:Info} {D:Nat},(j,(p,o))∈I→(qf t I D).testBit j=true
 |(i,(q,x))::r,D,h=>by
  unfold qf
  rcases List.mem_cons.1 h with h|h
  ·cases h
   rw[hd];simp only
   have:Nat.beq t t=true:=Nat.beq_refl t
   rw[this];exact EW (by rw[uC];simp)
  ·split
   ·split
    ·exact yg hd h
    ·exact yg hd h
   ·exact yg hd h
def wg(L:Array Oper)(I:Info):Info→Bool
 |[]=>true
 |(i,(p,o))::r=>match(o.looksAt L).all (fun t=>uB (qf t I 0) p)with
  |true=>match(match o.dst with
   |some d=>Nat.beq (qf d I 0) (mV i)
   |none=>true)with
   |true=>wg L I r
   |false=>false
  |false=>false
theorem JN{A:Array Oper}{I:Info}{i p:Nat}{o:Oper}: ∀{J:Info},wg A I J=true→(i,(p,o))∈J→(∀t∈o.looksAt A,∀j,(qf t I 0).testBit j=true→p.testBit j=true)∧∀d,o.dst=some d→∀j,(qf d I 0).testBit j=true→j=i
 |(k,(q,x))::r,h,hm=>by
  unfold wg at h
  split at h
  ·rename_i ab
   split at h
   ·rename_i ae
    rcases List.mem_cons.1 hm with hm|hm
    ·cases hm
     refine⟨fun t aJ j aj=>EU.1 (List.all_eq_true.1 ab t aJ) j aj,fun d hd j aj=>?_⟩
     rw[hd]at ae;rw[eI ae,JL]at aj;exact(of_decide_eq_true aj).symm
    ·exact JN h hm
   ·cases h
  ·cases h
theorem EX(ao:wg L.toArray (hT L 0) (hT L 0)=true)(h:oe M m)(av:m.length=L.length){i:Nat}{o:Oper}(hi:(i,o)∈od M (hT L 0)):L[i]? =some o∧Region.free .any L.toArray m.toArray i=true:=by
 obtain⟨p,ab,ae,aw⟩:=yf.1 hi
 obtain⟨s1,s2⟩:=JN ao ab
 obtain⟨d,hd,aM,rfl⟩:=ye.1 ab
 rw[Nat.zero_add]at hd
 subst hd
 refine⟨aM,?_⟩
 unfold Region.free
 have oh:L.toArray[i]? =some o:=by simpa using aM
 rw[oh]
 simp only[List.all_eq_true,List.mem_range,List.size_toArray,Bool.or_eq_true,beq_iff_eq]
 intro j aj
 by_cases jJ:j=i
 ·exact .inl (.inl jJ)
 ·rw[h.at av aj]
  cases gZ:M.testBit j with
  |true=>exact .inl (.inr rfl)
  |false=>
   refine .inr ?_
   have au:L[j]? =some L[j]:=List.getElem?_eq_getElem aj
   have lS:L.toArray[j]? =some L[j]:=by simp[aj]
   rw[lS];simp only[Bool.or_eq_true];generalize L[j]=x at au
   have JO:(j,(rz x.after.toList 0,x))∈hT L 0:=ye.2 ⟨j,by omega,au,rfl⟩
   obtain⟨t1,t2⟩:=JN ao JO
   by_cases hw:(rz x.after.toList 0).testBit i=true
   ·left
    rcases yd.1 hw with hw|⟨e,he,ag,Bj⟩
    ·simp at hw
    ·rw[Array.any_eq_true']
     exact⟨e,by simpa using he,by rw[ag,Bj];simp⟩
   ·right
    unfold Oper.apart;simp only[Bool.and_eq_true];refine⟨?_,?_⟩
    ·cases RG:o.dst with
     |none=>rfl
     |some d=>
      simp only[Bool.and_eq_true,Bool.not_eq_true'];refine⟨?_,?_⟩
      ·cases hc:(x.looksAt L.toArray).contains d with
       |false=>rfl
       |true=>exact absurd (t1 d (by simpa using hc) i (yg RG ab)) hw
      ·cases JP:x.dst with
       |none=>simp
       |some EY=>
        have:EY≠d:=fun e=>by
         subst e;exact jJ (s2 EY RG j (yg JP JO))
        simp[this]
    ·cases JP:x.dst with
     |none=>rfl
     |some d=>
      simp only[Bool.not_eq_true']
      cases hc:(o.looksAt L.toArray).contains d with
      |false=>rfl
      |true=>
       have:=EU.1 aw j (s1 d (by simpa using hc) j (yg JP JO))
       rw[gZ]at this
       cases this
def rA(M:Nat):Info→Nat→Nat
 |[],D=>D
 |(j,(p,_))::r,D=>match yc M j with
  |true=>rA M r D
  |false=>match Nat.beq (Nat.land p D) 0 with
   |true=>rA M r D
   |false=>rA M r (Nat.lor D (mV j))
theorem EZ{j:Nat}: ∀{I:Info} {D:Nat},D.testBit j=true→(rA M I D).testBit j=true
 |[],D,h=>h
 |(i,(p,o))::r,D,h=>by
  unfold rA
  split
  ·exact EZ h
  ·split
   ·exact EZ h
   ·exact EZ (by rw[uC,h];rfl)
theorem E0{j:Nat}: ∀{I:Info} {D:Nat},(rA M I D).testBit j=true→D.testBit j=true∨(M.testBit j=false∧∃p o,(j,(p,o))∈I∧∃k,p.testBit k=true∧(rA M I D).testBit k=true)
 |[],D,h=>.inl h
 |(i,(p,o))::r,D,h=>by
  unfold rA at h⊢;rw[ET]at h⊢
  cases ag:M.testBit i with
  |true=>
   rw[ag]at h;simp only at h⊢
   rcases E0 h with h|⟨ab,q,x,ae,aw⟩
   ·exact .inl h
   ·exact .inr ⟨ab,q,x,.tail _ ae,aw⟩
  |false=>
   rw[ag]at h;simp only at h⊢
   cases hm:Nat.beq (Nat.land p D) 0 with
   |true=>
    rw[hm]at h;simp only at h⊢
    rcases E0 h with h|⟨ab,q,x,ae,aw⟩
    ·exact .inl h
    ·exact .inr ⟨ab,q,x,.tail _ ae,aw⟩
   |false=>
    rw[hm]at h;simp only at h⊢
    rcases E0 h with h|⟨ab,q,x,ae,aw⟩
    ·rw[uC,Bool.or_eq_true,decide_eq_true_eq]at h
     rcases h with h|rfl
     ·exact .inl h
     ·obtain⟨k,fm,ha⟩:=ZV hm
      exact .inr ⟨ag,p,o,.head _,k,fm,EZ (by rw[uC,ha];rfl)⟩
    ·exact .inr ⟨ab,q,x,.tail _ ae,aw⟩
def E1(I:Info)(W M i:Nat):Bool:=uB W (Nat.lor M (rA M I (mV i)))
section
variable {P:Program} {G:aR} {Q:Exit→aQ→Prop} {wr:List Bool} {W:Nat}
theorem eN.mW{fuel:Nat}{s s':aQ}(i:Nat){o:Oper}(gZ:oe M m)(av:m.length=L.length)(ln:oe W wr)(hi:(i,o)∈od M (hT L 0))(ao:wg L.toArray (hT L 0) (hT L 0)=true)(ar:jd P G L.toArray o s s')(k:eN P G L Q wr fuel (m.set i true) s')(kZ:Region.noSelect L.toArray=true)
 (uD:wr.getD i false=false)(hw:E1 (hT L 0) W M i=true):eN P G L Q wr (fuel+1) m s:=by
 intro E a w dE
 obtain⟨au,hf⟩:=EX ao gZ av hi
 obtain⟨v,az,wh⟩:=ar E a w dE
 have RH:=EU.1 hw
 generalize ll:rA M (hT L 0) (mV i)=D at RH
 have ZW: ∀j,D.testBit j=true→j=i∨(M.testBit j=false∧∃p o,(j,(p,o))∈hT L 0∧∃k,p.testBit k=true∧D.testBit k=true):=fun j aj=>by
  rw[←ll]at aj⊢
  rcases E0 aj with h|h
  ·rw[JL]at h
   exact .inl (of_decide_eq_true h).symm
  ·exact .inr h
 refine RI (i:=i) (oi:=o) (v:=v) (by simpa using au) (by simpa using uD) (Region.noSelect_spec kZ) (fun c a w aG=>?_) (fun j=>D.testBit j=true∧j≠i) fuel m.toArray a w (Region.free_spec (by simpa using au) hf) (fun j iJ ml uE j3=>?_) (fun j aj=>?_) ((Bi gZ av).2 ⟨o,hi⟩) az (gg.refl w) (by simpa using k E _ w wh)
 ·obtain⟨_,⟨h,_⟩,_⟩:=aG
  cases h
 ·have dj:j<L.length:=by simpa using (Array.getElem?_eq_some_iff.1 ml).1
  rw[gZ.at av dj]at j3
  have:=RH j (by rw[ln j];simpa using uE)
  have ae:(Nat.lor M D).testBit j=(M.testBit j||D.testBit j):=Nat.testBit_or M D j
  rw[ae,j3,Bool.false_or]at this;exact⟨this,fun e=>by subst e;rw[uD]at uE;cases uE⟩
 ·rcases ZW j aj.1 with h|⟨ab,p,x,ae,k,fm,ha⟩
  ·exact absurd h aj.2
  ·obtain⟨d,hd,aw,rfl⟩:=ye.1 ae
   rw[Nat.zero_add]at hd;subst hd
   have dj:j<L.length:=(List.getElem?_eq_some_iff.1 aw).1
   refine⟨by rw[gZ.at av dj];exact ab,aj.2,x,by simpa using aw,?_⟩
   rcases yd.1 fm with fm|⟨e,he,ag,Bj⟩
   ·simp at fm
   ·refine⟨e,by simpa using he,ag,?_⟩
    by_cases bF:k=i
    ·exact .inl (Bj.trans bF)
    ·exact .inr ⟨by rw[Bj];exact ha,by rw[Bj];exact bF⟩
end
end
def wi(P:Program):Info→Nat→Nat
 |[],W=>W
 |(i,(_,o))::r,W=>match AX P o with
  |true=>wi P r (Nat.lor W (mV i))
  |false=>wi P r W
theorem JQ{P:Program}{j:Nat}: ∀{l:List Oper} {k W:Nat},(wi P (hT l k) W).testBit j=(W.testBit j||(decide (k≤j)&&(l.map (AX P)).getD (j-k) false))
 |[],k,W=>by simp[hT,wi]
 |o::r,k,W=>by
  simp only[hT,wi]
  cases hw:AX P o with
  |true=>
   simp only;rw[JQ,uC]
   by_cases ab:k=j
   ·subst ab
    simp[hw]
   ·by_cases ae:k≤j
    ·have aw:j-k=(j-(k+1))+1:=by omega
     have aM:k+1≤j:=by omega
     rw[aw];simp[ab,ae,aM]
    ·have aM: ¬k+1≤j:=by omega
     simp[ab,ae,aM]
  |false=>
   simp only;rw[JQ]
   by_cases ab:k=j
   ·subst ab
    have aM: ¬k+1≤k:=by omega
    simp[hw,aM]
   ·by_cases ae:k≤j
    ·have aw:j-k=(j-(k+1))+1:=by omega
     have aM:k+1≤j:=by omega
     rw[aw];simp[ae,aM]
    ·have aM: ¬k+1≤j:=by omega
     simp[ae,aM]
theorem ZX{P:Program}{L:List Oper}:oe (wi P (hT L 0) 0) (L.map (AX P)):=fun i=>by
 rw[JQ]
 simp
def wj(P:Program)(G:aR)(L:Array Oper)(I:Info)(W M:Nat)(S:bD):List (Nat × Oper)→Option (Nat × bD)
 |[]=>none
 |(j,o)::r=>match yc W j with
  |true=>wj P G L I W M S r
  |false=>match Jq P G L o S with
   |some (true,aO)=>some (j,aO)
   |some (false,aO)=>match E1 I W M j with
    |true=>some (j,aO)
    |false=>wj P G L I W M S r
   |none=>wj P G L I W M S r
def E2(P:Program)(G:aR)(bZ:fe)(L:Array Oper)(W M:Nat)(S:bD):List (Nat × Oper)→Option (List (Nat × bD))
 |[]=>some []
 |(j,o)::r=>match EC P o S with
  |S0=>match yc W j|| !(Jp P G L o S0),xZ P G bZ L o S0,E2 P G bZ L W M S r with
   |true,some aO,some l=>EV (Nat.lor M (mV j)) fun sP=>some ((sP,aO)::l)
   |_,_,_=>none
def JR(P:Program)(G:aR)(bZ:fe)(L:Array Oper)(I:Info)(W M:Nat)(S:bD):Option (List (Nat × bD)):=
 match od M I with
 |[]=>none
 |q::rd=>match wj P G L I W M S (q::rd)with
  |some (j,aO)=>EV (Nat.lor M (mV j)) fun sP=>some [(sP,aO)]
  |none=>E2 P G bZ L W M S (q::rd)
def E3(n0:Nat)(ops:List Oper)(M:Nat)(S:bD):List (Nat × bD)→Option (List (Nat × bD))
 |[]=>some [(M,S)]
 |(sP,bP)::r=>match Nat.beq sP M with
  |true=>match EB S bP with
   |true=>some ((sP,bP)::r)
   |false=>match EB (canon n0 ops S) (canon n0 ops bP)with
    |true=>some ((sP,canon n0 ops bP)::r)
    |false=>none
  |false=>match E3 n0 ops M S r with
   |some eG=>some ((sP,bP)::eG)
   |none=>none
def E4(n0:Nat)(ops:List Oper):List (Nat × bD)→List (Nat × bD)→Option (List (Nat × bD))
 |[],l=>some l
 |(M,S)::r,l=>match E3 n0 ops M S l with
  |some er=>E4 n0 ops r er
  |none=>none
def E5(P:Program)(G:aR)(bZ:fe)(L:Array Oper)(I:Info)(W n0:Nat):List (Nat × bD)→List (Nat × bD)→Option (List (Nat × bD))
 |[],acc=>some acc
 |(M,S)::r,acc=>match JR P G bZ L I W M S with
  |some l=>match E4 n0 L.toList l acc with
   |some ZY=>E5 P G bZ L I W n0 r ZY
   |none=>none
  |none=>none
def E6(P:Program)(G:aR)(bZ:fe)(L:Array Oper)(I:Info)(W n0:Nat):Nat→List (Nat × bD)→Option (List (Nat × bD))
 |0,l=>some l
 |n+1,l=>match E5 P G bZ L I W n0 l []with
  |some er=>E6 P G bZ L I W n0 n er
  |none=>none
def Js(P:Program)(G:aR)(bZ:fe)(ops:Array Oper)(S:bD):Option bD:=
 match(P.follows .mixedOrders&&Region.noSelect ops)&&wg ops (hT ops.toList 0) (hT ops.toList 0)with
 |true=>EV (wi P (hT ops.toList 0) 0) fun W=>match E6 P G bZ ops (hT ops.toList 0) W S.n ops.size [(0,S)]with
  |some [(M,aO)]=>match od M (hT ops.toList 0)with
   |[]=>some (canon S.n ops.toList aO)
   |_=>none
  |_=>none
 |false=>none
section
variable {P:Program} {G:aR} {bZ:fe} {ops:Array Oper} {S bP:bD}
theorem RJ{L:Array Oper}{I:Info}{W M:Nat}: ∀{l:List (Nat × Oper)} {j:Nat} {bP:bD},wj P G L I W M S l=some (j,bP)→∃o,(j,o)∈l∧W.testBit j=false∧(gL P G L o S.den bP.den∨(jd P G L o S.den bP.den∧E1 I W M j=true))
 |(i,o)::r,j,bP,h=>by
  have JS:wj P G L I W M S r=some (j,bP)→∃cb,(j,cb)∈(i,o)::r∧W.testBit j=false∧(gL P G L cb S.den bP.den∨(jd P G L cb S.den bP.den∧E1 I W M j=true)):=fun h=>by
   obtain⟨cb,ab,ae⟩:=RJ h;exact⟨cb,.tail _ ab,ae⟩
  unfold wj at h;rw[ET]at h
  split at h
  ·exact JS h
  ·rename_i ag
   split at h
   ·rename_i aO an
    cases h
    rcases Rp an with⟨_,ar⟩|⟨ag,_⟩
    ·exact⟨o,.head _,ag,.inl ar⟩
    ·cases ag
   ·rename_i aO an
    split at h
    ·rename_i hd
     cases h
     rcases Rp an with⟨ag,_⟩|⟨_,ar⟩
     ·cases ag
     ·exact⟨o,.head _,ag,.inr ⟨ar,hd⟩⟩
    ·exact JS h
   ·exact JS h
theorem RK(e4:hA P G bZ){L:Array Oper}{W M:Nat}: ∀{l:List (Nat × Oper)} {r:List (Nat × bD)},E2 P G bZ L W M S l=some r→∀j o,(j,o)∈l→∃aO,(Nat.lor M (mV j),aO)∈r∧∃b,(b=true→W.testBit j=true)∧sL P G L o b S.den aO.den
 |[],_,_,j,o,h=>by cases h
 |(i,x)::q,r,h,j,o,hm=>by
  unfold E2 at h;generalize ZZ:EC P x S=S0 at h;simp only at h
  split at h
  ·rename_i aO l hw hc av
   rw[JM]at h;cases h;subst ZZ
   rcases List.mem_cons.1 hm with hm|hm
   ·cases hm
    refine⟨aO,.head _,_,fun ag=>?_,(Ro e4 hc).le (Zz _ _ _)⟩
    rw[ag,ET]at hw;simpa using hw
   ·obtain⟨dr,ab,ae⟩:=RK e4 av j o hm
    exact⟨dr,.tail _ ab,ae⟩
  ·cases h
theorem RL{n0 M:Nat}{ops:List Oper}{S:bD}: ∀{l er:List (Nat × bD)},E3 n0 ops M S l=some er→(∃T,(M,T)∈er∧bV S.den T.den)∧∀j4 aO,(j4,aO)∈l→∃T,(j4,T)∈er∧bV aO.den T.den
 |[],er,h=>by
  cases h;exact⟨⟨S,.head _,bV.refl _⟩,fun _ _ h=>by cases h⟩
 |(sP,bP)::r,er,h=>by
  unfold E3 at h
  split at h
  ·rename_i ag
   have:=eI ag
   subst this
   split at h
   ·rename_i he
    cases h
    have:=Rn he
    subst this;exact⟨⟨S,.head _,bV.refl _⟩,fun j4 aO ab=>⟨aO,ab,bV.refl _⟩⟩
   ·split at h
    ·rename_i he
     cases h
     have he:=Rn he
     refine⟨⟨_,.head _,by rw[←he];exact JT _ _ _⟩,fun j4 aO ab=>?_⟩
     rcases List.mem_cons.1 ab with ab|ab
     ·cases ab;exact⟨_,.head _,JT _ _ _⟩
     ·exact⟨aO,.tail _ ab,bV.refl _⟩
    ·cases h
  ·split at h
   ·rename_i eG ah
    cases h;obtain⟨⟨T,t1,t2⟩,ae⟩:=RL ah;refine⟨⟨T,.tail _ t1,t2⟩,fun j4 aO ab=>?_⟩
    rcases List.mem_cons.1 ab with ab|ab
    ·cases ab;exact⟨_,.head _,bV.refl _⟩
    ·obtain⟨T,t1,t2⟩:=ae j4 aO ab
     exact⟨T,.tail _ t1,t2⟩
   ·cases h
theorem RM{n0:Nat}{ops:List Oper}: ∀{k l er:List (Nat × bD)},E4 n0 ops k l=some er→∀j4 aO,(j4,aO)∈k∨(j4,aO)∈l→∃T,(j4,T)∈er∧bV aO.den T.den
 |[],l,er,h,j4,aO,hm=>by
  cases h
  rcases hm with hm|hm
  ·cases hm
  ·exact⟨aO,hm,bV.refl _⟩
 |(M,S)::r,l,er,h,j4,aO,hm=>by
  unfold E4 at h
  split at h
  ·rename_i Bk ab
   obtain⟨⟨T,t1,t2⟩,ae⟩:=RL ab
   have aw:=RM h
   rcases hm with hm|hm
   ·rcases List.mem_cons.1 hm with hm|hm
    ·cases hm
     obtain⟨rB,qg,qh⟩:=aw _ _ (.inr t1);exact⟨rB,qg,t2.trans qh⟩
    ·exact aw _ _ (.inl hm)
   ·obtain⟨T,t1,t2⟩:=ae _ _ hm
    obtain⟨rB,qg,qh⟩:=aw _ _ (.inr t1);exact⟨rB,qg,t2.trans qh⟩
  ·cases h
theorem RN{L:Array Oper}{I:Info}{W n0:Nat}: ∀{l acc er:List (Nat × bD)},E5 P G bZ L I W n0 l acc=some er→(∀j4 aO,(j4,aO)∈acc→∃T,(j4,T)∈er∧bV aO.den T.den)∧∀M S,(M,S)∈l→∃k,JR P G bZ L I W M S=some k∧∀j4 aO,(j4,aO)∈k→∃T,(j4,T)∈er∧bV aO.den T.den
 |[],acc,er,h=>by
  cases h;exact⟨fun j4 aO h=>⟨aO,h,bV.refl _⟩,fun _ _ h=>by cases h⟩
 |(M,S)::r,acc,er,h=>by
  unfold E5 at h
  split at h
  ·rename_i k an
   split at h
   ·rename_i zjU ab
    have ae:=RM ab
    obtain⟨aw,aM⟩:=RN h;refine⟨fun j4 aO hm=>?_,fun j4 aO hm=>?_⟩
    ·obtain⟨T,t1,t2⟩:=ae _ _ (.inr hm)
     obtain⟨rB,qg,qh⟩:=aw _ _ t1;exact⟨rB,qg,t2.trans qh⟩
    ·rcases List.mem_cons.1 hm with hm|hm
     ·cases hm
      refine⟨k,an,fun M2 dr hm=>?_⟩
      obtain⟨T,t1,t2⟩:=ae _ _ (.inl hm);obtain⟨rB,qg,qh⟩:=aw _ _ t1;exact⟨rB,qg,t2.trans qh⟩
     ·exact aM _ _ hm
   ·cases h
  ·cases h
theorem RO(e4:hA P G bZ){L:List Oper}{wr:List Bool}{W n0:Nat}(kZ:Region.noSelect L.toArray=true)(ao:wg L.toArray (hT L 0) (hT L 0)=true)(ln:oe W wr){Q:Exit→aQ→Prop}: ∀(n:Nat) {l er:List (Nat × bD)},E6 P G bZ L.toArray (hT L 0) W n0 n l=some er→(∀M S,(M,S)∈er→∀m,oe M m→m.length=L.length→eN P G L Q wr 0 m S.den)→∀M S,(M,S)∈l→∀m,oe M m→m.length=L.length→eN P G L Q wr n m S.den
 |0,l,er,h,aG,M,S,hm,m,gZ,av=>by
  cases h;exact aG M S hm m gZ av
 |n+1,l,er,h,aG,M,S,hm,m,gZ,av=>by
  unfold E6 at h
  split at h
  ·rename_i Bk ab
   have aY:=RO e4 kZ ao ln n h aG
   obtain⟨k,an,hn⟩:=(RN ab).2 M S hm
   have bE: ∀{j:Nat} {o:Oper},(j,o)∈od M (hT L 0)→j<m.length:=fun {j o} aj=>by
    have:=(EX ao gZ av aj).1
    rw[av];exact(List.getElem?_eq_some_iff.1 this).1
   have eA: ∀j:Nat,(m.set j true).length=L.length:=fun j=>by rw[List.length_set];exact av
   have RP: ∀j o aO,(j,o)∈od M (hT L 0)→(Nat.lor M (mV j),aO)∈k→eN P G L Q wr n (m.set j true) aO.den:=fun j o aO aj Bl=>by
    obtain⟨T,t1,t2⟩:=hn _ _ Bl;exact eN.le t2 (aY _ _ t1 _ (gZ.set (bE aj)) (eA j))
   unfold JR at an
   split at an
   ·cases an
   ·rename_i q rd ah
    rw[←ah]at an
    split at an
    ·rename_i j aO Bl
     rw[JM]at an;cases an;obtain⟨o,ab,aw,bn⟩:=RJ Bl
     have E7:wr.getD j false=false:=by rw[←ln j];exact aw
     have aY:=RP j o aO ab (.head _)
     rcases bn with bn|⟨bn,cl⟩
     ·obtain⟨ae,aM⟩:=EX ao gZ av ab
      exact eN.RQ j ae bn aY kZ aM (by simpa using (Bi gZ av).2 ⟨o,ab⟩) E7
     ·exact eN.mW j gZ av ln ab ao bn aY kZ E7 cl
    ·refine eN.Zy (fun hn=>?_) fun j aj=>?_
     ·have:q.1∈Region.ready .any L.toArray m.toArray:=(Bi gZ av).2 ⟨q.2,by rw[ah];exact List.mem_cons_self⟩
      rw[hn]at this
      cases this
     ·obtain⟨o,au⟩:=(Bi gZ av).1 aj
      obtain⟨aO,g1,b,g2,g3⟩:=RK e4 an j o au;exact⟨o,aO.den,(EX ao gZ av au).1,g3.wr (fun ag=>by rw[←ln j];exact g2 ag),RP j o aO au g1⟩
  ·cases h
theorem ZB(e4:hA P G bZ){Q:Exit→aQ→Prop}{id:Nat}(h:Js P G bZ ops S=some bP)(aG:Q .normal bP.den):b2 P G (.region id ops true) Q S.den:=by
 unfold Js at h
 split at h
 ·rename_i hc
  simp only[Bool.and_eq_true]at hc;rw[JM]at h
  have h4:ops=ops.toList.toArray:=by simp
  rw[h4]at h hc⊢;generalize ops.toList=L at h hc⊢
  have bT:L.toArray.size=L.length:=by simp
  rw[bT]at h
  split at h
  ·rename_i M aO az
   split at h
   ·rename_i ah
    cases h;refine b2.RR L.length (RO e4 hc.1.2 hc.2 ZX L.length az (fun M2 dr hm m gZ av=>?_) 0 S (.head _) (List.replicate L.length false) (fun i=>by simp[List.getD_eq_getElem?_getD,List.getElem?_replicate];split<;>rfl) (by simp)) hc.1.1 (Nat.beq_refl _)
    cases List.mem_singleton.1 hm
    refine eN.le (JT _ _ _) (eN.done aG (List.eq_nil_iff_forall_not_mem.2 fun j aj=>?_))
    obtain⟨o,au⟩:=(Bi gZ av).1 aj;rw[ah]at au;cases au
   ·cases h
  ·cases h
 ·cases h
end
end Go.aK
