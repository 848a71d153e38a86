/- Conditions: none. -/
import Derived.Test.YtddeffoppnlafaaGreatJCEd
import Derived.Test.YtddeffoppnlafaaGreatJCEs
import Derived.Test.YtddeffoppnlafaaGreatJTDy
open Bool renaming and_eq_true->zZr
open Nat renaming beq->zZu
namespace Go.aH
open Go
def Hq:Value->Value->Bool
 | .int k x,.int bl y=>decide (k=bl)&&decide (x=y)| .bool x,.bool y=>x==y| .string x,.string y=>gv x y| .slice none 0 0,.slice none 0 0=>true| .pointer none,.pointer none=>true| .map none,.map none=>true| .nilFunc,.nilFunc=>true| .nilIface,.nilIface=>true|_,_=>false
theorem TX{x y:Value}(h:Hq x y=true):x=y:=by
 unfold Hq at h
 split at h
 ·simp only[zZr,decide_eq_true_eq]at h
  rw[h.1,h.2]
 ·rw[eq_of_beq h]
 ·rw[L7.1 h]
 all_goals first|rfl|cases h
mutual
def Hr:a7->a7->Bool
 | .v x,.v y=>Hq x y| .ptr a,.ptr b=>yj a b| .aq n a,.aq m b=>zZu n m&&DB a b| .eE t z a,.eE u y b=>(zZu t u&&decide (z=y))&&yj a b|_,_=>false
def yj:List a7->List a7->Bool
 |[],[]=>true|x::l,y::m=>Hr x y&&yj l m|_,_=>false
def DB:List (List a7)->List (List a7)->Bool
 |[],[]=>true|x::l,y::m=>yj x y&&DB l m|_,_=>false
end
mutual
theorem TY: ∀{x y:a7},Hr x y=true->x=y:=λ{x y} h=>by
 unfold Hr at h
 split at h
 ·rw[TX h]
 ·rename_i a b;rw[DC (l:=a) (m:=b) h]
 ·rename_i n a m b
  simp only[zZr]at h;rw[e9 h.1,MB (l:=a) (m:=b) h.2]
 ·rename_i t z a u y b
  simp only[zZr,decide_eq_true_eq]at h;rw[e9 h.1.1,h.1.2,DC (l:=a) (m:=b) h.2]
 ·cases h
theorem DC: ∀{l m:List a7},yj l m=true->l=m:=λ{l m} h=>by
 unfold yj at h
 split at h
 ·rfl
 ·rename_i x l y m
  simp only[zZr]at h;rw[TY (x:=x) (y:=y) h.1,DC (l:=l) (m:=m) h.2]
 ·cases h
theorem MB: ∀{l m:List (List a7)},DB l m=true->l=m:=λ{l m} h=>by
 unfold DB at h
 split at h
 ·rfl
 ·rename_i x l y m
  simp only[zZr]at h;rw[DC (l:=x) (m:=y) h.1,MB (l:=l) (m:=m) h.2]
 ·cases h
end
mutual
def Hs:aC->aC->Bool
 | .ad x,.ad y=>Hr x y| .agg a,.agg b=>uT a b| .tuple a,.tuple b=>uT a b| .ptr i o,.ptr j q=>zZu i j&&zZu o q| .du i x o,.du j y q=>zZu i j&&(zZu x y&&zZu o q)| .aq i,.aq j=>zZu i j| .fn f a b,.fn g c d=>Ht f g&&(uT a c&&uT b d)| .ref i,.ref j=>zZu i j| .eb i n,.eb j m=>zZu i j&&zZu n m| .top,.top=>true|_,_=>false
def uT:List aC->List aC->Bool
 |[],[]=>true|x::l,y::m=>Hs x y&&uT l m|_,_=>false
end
mutual
theorem TZ: ∀{x y:aC},Hs x y=true->x=y:=λ{x y} h=>by
 unfold Hs at h
 split at h
 ·rw[TY h]
 ·rename_i a b;rw[yk (l:=a) (m:=b) h]
 ·rename_i a b;rw[yk (l:=a) (m:=b) h]
 ·simp only[zZr]at h
  rw[e9 h.1,e9 h.2]
 ·simp only[zZr]at h
  rw[e9 h.1,e9 h.2.1,e9 h.2.2]
 ·rw[e9 h]
 ·rename_i f a b g c d
  simp only[zZr]at h;rw[T0 h.1,yk (l:=a) (m:=c) h.2.1,yk (l:=b) (m:=d) h.2.2]
 ·rw[e9 h]
 ·simp only[zZr]at h
  rw[e9 h.1,e9 h.2]
 ·rfl
 ·cases h
theorem yk: ∀{l m:List aC},uT l m=true->l=m:=λ{l m} h=>by
 unfold uT at h
 split at h
 ·rfl
 ·rename_i x l y m
  simp only[zZr]at h;rw[TZ (x:=x) (y:=y) h.1,yk (l:=l) (m:=m) h.2]
 ·cases h
end
def DD:List (Value × List a7)->List (Value × List a7)->Bool
 |[],[]=>true|(k,x)::l,(bl,y)::m=>(Hq k bl&&yj x y)&&DD l m|_,_=>false
theorem T1: ∀{l m:List (Value × List a7)},DD l m=true->l=m
 |[],[],_=>rfl|(k,x)::l,(bl,y)::m,h=>by
  simp only[DD,zZr]at h;rw[TX h.1.1,DC h.1.2,T1 h.2]
 |[],_::_,h=>by cases h
 |_::_,[],h=>by simp[DD]at h
def MC:jf->jf->Bool
 | .box t a,.box u b=>zZu t u&&uT a b| .row z t n a,.row y u m b=>(decide (z=y)&&zZu t u)&&(zZu n m&&DB a b)| .it a p,.it b q=>gv a b&&zZu p q| .mp a l,.mp b m=>decide (a=b)&&DD l m|_,_=>false
theorem zdB{x y:jf}(h:MC x y=true):x=y:=by
 unfold MC at h
 split at h
 ·simp only[zZr]at h
  rw[e9 h.1,yk h.2]
 ·simp only[zZr,decide_eq_true_eq]at h
  rw[h.1.1,e9 h.1.2,e9 h.2.1,MB h.2.2]
 ·simp only[zZr]at h
  rw[L7.1 h.1,e9 h.2]
 ·simp only[zZr,decide_eq_true_eq]at h
  rw[h.1,T1 h.2]
 ·cases h
def AG:eM->eM->Bool
 |[],[]=>true|(k,x)::l,(bl,y)::m=>(zZu k bl&&MC x y)&&AG l m|_,_=>false
theorem MD: ∀{l m:eM},AG l m=true->l=m
 |[],[],_=>rfl|(k,x)::l,(bl,y)::m,h=>by
  simp only[AG,zZr]at h;rw[e9 h.1.1,zdB h.1.2,MD h.2]
 |[],_::_,h=>by cases h
 |_::_,[],h=>by simp[AG]at h
def qL:bn aC->bn aC->Bool
 | .emp,.emp=>true| .n none l r,.n none dF e5=>qL l dF&&qL r e5| .n (some v) l r,.n (some bC) dF e5=>Hs v bC&&(qL l dF&&qL r e5)|_,_=>false
theorem zdC: ∀{l m:bn aC},qL l m=true->l=m:=λ{l}=>by
 induction l with
 |emp=>
  intro m h
  cases m with
  |emp=>rfl|n v l r=>simp[qL]at h
 |n v a b DE Hu=>
  intro m h
  cases m with
  |emp=>simp[qL]at h|n bC l r=>
   cases v with
   |none=>
    cases bC with
    |none=>
     simp only[qL,zZr]at h;rw[DE h.1,Hu h.2]
    |some y=>simp[qL]at h
   |some x=>
    cases bC with
    |none=>simp[qL]at h|some y=>
     simp only[qL,zZr]at h;rw[TZ h.1,DE h.2.1,Hu h.2.2]
def Hv(S T:bS):Bool:=(qL S.l T.l&&AG S.h T.h)&&(zZu S.N T.N&&(zZu S.n T.n&&zZu S.b T.b))
theorem T2{S T:bS}(h:Hv S T=true):S=T:=by
 obtain⟨l,N,aa,n,b⟩:=S;obtain⟨dF,oq,uU,b0,hL⟩:=T;simp only[Hv,zZr]at h;rw[zdC h.1.1,MD h.1.2,e9 h.2.1,e9 h.2.2.1,e9 h.2.2.2]
def uV(P:Program)(G:aV)(ops:Array Oper)(o:Oper)(wr:Bool)(s s':aS):Prop:=∀E a w,Rel E G s a w->
 (Region.wanted o (yielded ops a.tmps)=true/\∀(K:Act->World->Prop) (Q:Exit->Act->World->Prop),(∀bo w',Rel E G s' bo w'->(wr=true\/gR w w')->K bo w')->o.wp P a w K Q)\/
 (Region.wanted o (yielded ops a.tmps)=false/\Rel E G s' (a.put o.dst undef) w)
theorem uV.wr{P:Program}{G:aV}{ops:Array Oper}{o:Oper}{b hL:Bool}{s s':aS}(h:uV P G ops o b s s')(af:b=true->hL=true):uV P G ops o hL s s':=λE a w ah=>by
 rcases h E a w ah with⟨aa,ae⟩|ae
 ·exact .inl ⟨aa,λK Q hK=>ae K Q λbo w' dW an=>hK bo w' dW (an.imp af id)⟩
 ·exact .inr ae
section
variable {P:Program} {G:aV} {Q:Exit->aS->Prop} {L:List Oper} {wr:List Bool}
theorem fg.zdD{fuel:Nat}{m:List Bool}{s:aS}(b6:Region.ready .any L.toArray m.toArray≠[])(h: ∀i∈Region.ready .any L.toArray m.toArray,∃o t,L[i]? =some o/\uV P G L.toArray o (wr.getD i false) s t/\fg P G L Q wr fuel (m.set i true) t):fg P G L Q wr (fuel+1) m s:=by
 intro E a w ah;refine⟨λhn=>absurd hn b6,λj aj=>?_⟩;obtain⟨o,t,av,ao,k⟩:=h j aj;have eX:m.toArray.setIfInBounds j true=(m.set j true).toArray:=by simp
 have next: ∀bo w',Rel E G t bo w'->(wr.getD j false=true\/gR w w')->(wr.getD j false=true/\wpAny P .any L.toArray (lift E G (pc Q)) fuel (m.toArray.setIfInBounds j true) bo w')\/(wr.getD j false=false/\gR w w'/\pd P L.toArray (lift E G (pc Q)) (gR w) (λi=>wr.getD i false) fuel (m.toArray.setIfInBounds j true) bo w'):=λbo w' dW an=>by
  rw[eX]
  cases hw:wr.getD j false with
  |true=>exact .inl ⟨rfl,k.dj E bo w' dW⟩|false=>
   rcases an with an|an
   ·rw[hw]at an;cases an
   ·exact .inr ⟨rfl,an,DF (λec ae=>an.trans ae) _ _ _ _ (k E bo w' dW)⟩
 unfold wpOp;rw[show L.toArray[j]? =some o from by simpa using av]
 simp only
 rcases ao E a w ah with⟨gm,aw⟩|⟨gm,aw⟩
 ·rw[if_pos gm]
  exact .inl (aw _ _ next)
 ·rw[if_neg (by rw[gm];decide)]
  exact next _ _ aw (.inr (gR.refl w))
theorem fg.le{fuel:Nat}{m:List Bool}{s s':aS}(au:b5 s s')(h:fg P G L Q wr fuel m s'):fg P G L Q wr fuel m s:=λE a w ah=>h E a w (au E G a w ah)
end
def DG(ops:Array Oper)(S:bS)(o:Oper):Option Bool:=
 match o.guard with
 |none=>some true|some (j,b)=>match ov ops j with
  |some d=>match Nat.blt d S.N with
   |true=>match S.at d with
    | .ad (.v (.bool c))=>some (match b,c with
     |true,true=>true|false,false=>true
     |_,_=>false)
    | .tuple _=>some false|_=>none
   |false=>none
  |none=>none
theorem AH{ops:Array Oper}{S:bS}{o:Oper}{b:Bool}(h:DG ops S o=some b):fh ops S.den o=some b:=by
 unfold DG at h;unfold fh
 split at h
 ·rename_i ai;rw[ai];exact h
 ·rename_i j c ai
  rw[ai];simp only
  split at h
  ·rename_i d hd
   rw[hd];simp only
   split at h
   ·rename_i au
    rw[L5,au];simp only
    split at h
    ·rename_i x hx;rw[hx];exact h
    ·rename_i x hx;rw[hx];exact h
    ·cases h
   ·cases h
  ·cases h
def AI(P:Program)(G:aV)(bX:fB)(ops:Array Oper)(o:Oper)(S:bS):Option bS:=
 match DG ops S o with
 |some true=>Mt P G bX o (Hk G o S)|some false=>some (S.put o.dst (.tuple []))|none=>none
def ME(P:Program)(G:aV)(ops:Array Oper)(o:Oper)(S:bS):Bool:=
 match DG ops S o with
 |some true=>Mu P G (Hk G o S) o|_=>false
def DH(P:Program)(G:aV)(bX:fB)(ops:Array Oper):List Oper->bS->Option bS
 |[],S=>some S|o::r,S=>match AI P G bX ops o S with
  |some aM=>DH P G bX ops r aM|none=>none
def MF(P:Program)(G:aV)(ops:Array Oper)(o:Oper)(S:bS):Option (Bool × bS):=
 match DG ops S o with
 |some false=>some (true,S.put o.dst (.tuple []))|some true=>match zc7 P (fA G S) (c7 S.h) o with
  |some v=>some (true,S.put o.dst v)|none=>match zc8 P (fA G S) o with
   |some v=>some (true,S.put o.dst v)|none=>match zc9 P (fA G S) (c7 S.h) o with
    |some v=>some (false,S.put o.dst v)|none=>match Du o with
     |true=>none|false=>match G8 P G o S with
      |some (.ad (.v x))=>some (false,S.put o.dst (.ad (.v x)))|_=>none
 |none=>none
def Hw(P:Program)(o:Oper)(S:bS):bS:=
 match Du o,Dv P o,o.op with
 |true,false,.call c=>Hi c.args.toList S|_,_,_=>S
theorem zdE(P:Program)(o:Oper)(S:bS):b5 S.den (Hw P o S).den:=by
 unfold Hw
 split
 ·exact Hj _ _
 ·exact b5.refl _
theorem uV.le{P:Program}{G:aV}{ops:Array Oper}{o:Oper}{b:Bool}{s s1 s':aS}(au:b5 s s1)(h:uV P G ops o b s1 s'):uV P G ops o b s s':=λE a w ah=>h E a w (au E G a w ah)
section
variable {P:Program} {G:aV} {bX:fB} {ops:Array Oper} {o:Oper} {S bV:bS}
theorem T3(fv:ia P G bX)(h:AI P G bX ops o S=some bV):uV P G ops o (ME P G ops o S) S.den bV.den:=by
 unfold AI at h
 split at h
 ·rename_i Hx
  have ai:=AH Hx;obtain⟨aa,ae⟩:=TW fv h;have hle:b5 S.den (Hk G o S).den:=Hj _ _;intro E a w ah;refine .inl ⟨nJ ah ai,λK Q hK=>?_⟩
  rcases ae with ae|ae
  ·exact aa E a w (hle E G a w ah) K Q λbo w' dW=>hK bo w' dW (.inl (by unfold ME;rw[Hx];exact ae))
  ·exact ae E a w (hle E G a w ah) K Q λbo w' dW an=>hK bo w' dW (.inr an)
 ·rename_i ai
  have ai:=AH ai
  cases h;intro E a w ah;exact .inr ⟨nJ ah ai,by rw[iR];exact ah.AJ o.dst⟩
 ·cases h
theorem MG(fv:ia P G bX){Q:Exit->aS->Prop}: ∀{l:List Oper} {S bV:bS},DH P G bX ops l S=some bV->Q .normal bV.den->c9 P G ops Q l S.den
 |[],S,bV,h,aB=>by
  cases h;exact c9.nil aB
 |o::r,S,bV,h,aB=>by
  simp only[DH]at h
  split at h
  ·rename_i aM aa
   have bb:=MG fv h aB;unfold AI at aa
   split at aa
   ·rename_i ai
    have ai:=AH ai;have hle:b5 S.den (Hk G o S).den:=Hj _ _;exact c9.step ai (λE a w ah K Q hK=>(TW fv aa).1 E a w (hle E G a w ah) K Q hK) bb
   ·rename_i ai
    have ai:=AH ai
    cases aa;rw[iR]at bb;exact c9.pass ai bb
   ·cases aa
  ·cases h
theorem T4{b:Bool}(h:MF P G ops o S=some (b,bV)):(b=true/\hC P G ops o S.den bV.den)\/(b=false/\jW P G ops o S.den bV.den):=by
 unfold MF at h;rw[wA]at h
 split at h
 ·rename_i ai
  have ai:=AH ai
  cases h;exact .inl ⟨rfl,by rw[iR];exact hC.skip ai⟩
 ·rename_i ai
  have ai:=AH ai
  split at h
  ·rename_i v az
   cases h;exact .inl ⟨rfl,by rw[iR];exact hC.val az ai⟩
  ·split at h
   ·rename_i v az
    cases h;exact .inl ⟨rfl,by rw[iR];exact hC.zdF az ai⟩
   ·split at h
    ·rename_i v az
     cases h;exact .inr ⟨rfl,by rw[iR];exact jW.load az ai⟩
    ·split at h
     ·cases h
     ·split at h
      ·rename_i x az
       cases h;exact .inr ⟨rfl,by rw[iR];exact jW.uW (Mh az) ai⟩
      ·cases h
 ·cases h
end
end Go.aH
