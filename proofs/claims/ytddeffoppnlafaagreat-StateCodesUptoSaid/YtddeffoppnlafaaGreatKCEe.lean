/- CE, part E: regions of a closed run, also those whose order is drawn. Conditions: none. -/
import Derived.Test.YtddeffoppnlafaaGreatKCEd
import Derived.Test.YtddeffoppnlafaaGreatKCEs
import Derived.Test.YtddeffoppnlafaaGreatKTDy
namespace Go.aK
open Go
def Ew:Value→Value→Bool
 | .int k x,.int a8 y=>decide (k=a8)&&decide (x=y)
 | .bool x,.bool y=>x==y
 | .string x,.string y=>gB x y
 | .slice none 0 0,.slice none 0 0=>true
 | .pointer none,.pointer none=>true
 | .map none,.map none=>true
 | .nilFunc,.nilFunc=>true
 | .nilIface,.nilIface=>true
 |_,_=>false
theorem Ri{x y:Value}(h:Ew x y=true):x=y:=by
 unfold Ew at h
 split at h
 ·simp only[Bool.and_eq_true,decide_eq_true_eq]at h
  rw[h.1,h.2]
 ·rw[eq_of_beq h]
 ·rw[IS.1 h]
 all_goals first|rfl|cases h
mutual
def Ex:aU→aU→Bool
 | .v x,.v y=>Ew x y
 | .ptr a,.ptr b=>vY a b
 | .aq n a,.aq m b=>Nat.beq n m&&A3 a b
 | .ei t z a,.ei u y b=>(Nat.beq t u&&decide (z=y))&&vY a b
 |_,_=>false
def vY:List aU→List aU→Bool
 |[],[]=>true
 |x::l,y::m=>Ex x y&&vY l m
 |_,_=>false
def A3:List (List aU)→List (List aU)→Bool
 |[],[]=>true
 |x::l,y::m=>vY x y&&A3 l m
 |_,_=>false
end
mutual
theorem Rj: ∀{x y:aU},Ex x y=true→x=y:=fun {x y} h=>by
 unfold Ex at h
 split at h
 ·rw[Ri h]
 ·rename_i a b;rw[A4 (l:=a) (m:=b) h]
 ·rename_i n a m b
  simp only[Bool.and_eq_true]at h;rw[eI h.1,Jm (l:=a) (m:=b) h.2]
 ·rename_i t z a u y b
  simp only[Bool.and_eq_true,decide_eq_true_eq]at h;rw[eI h.1.1,h.1.2,A4 (l:=a) (m:=b) h.2]
 ·cases h
theorem A4: ∀{l m:List aU},vY l m=true→l=m:=fun {l m} h=>by
 unfold vY at h
 split at h
 ·rfl
 ·rename_i x l y m
  simp only[Bool.and_eq_true]at h;rw[Rj (x:=x) (y:=y) h.1,A4 (l:=l) (m:=m) h.2]
 ·cases h
theorem Jm: ∀{l m:List (List aU)},A3 l m=true→l=m:=fun {l m} h=>by
 unfold A3 at h
 split at h
 ·rfl
 ·rename_i x l y m
  simp only[Bool.and_eq_true]at h;rw[A4 (l:=x) (m:=y) h.1,Jm (l:=l) (m:=m) h.2]
 ·cases h
end
mutual
def Ey:aC→aC→Bool
 | .ad x,.ad y=>Ex x y
 | .agg a,.agg b=>sJ a b
 | .tuple a,.tuple b=>sJ a b
 | .ptr i o,.ptr j q=>Nat.beq i j&&Nat.beq o q
 | .dg i x o,.dg j y q=>Nat.beq i j&&(Nat.beq x y&&Nat.beq o q)
 | .aq i,.aq j=>Nat.beq i j
 | .fn f a b,.fn g c d=>Ez f g&&(sJ a c&&sJ b d)
 | .ref i,.ref j=>Nat.beq i j
 | .dN i n,.dN j m=>Nat.beq i j&&Nat.beq n m
 | .top,.top=>true
 |_,_=>false
def sJ:List aC→List aC→Bool
 |[],[]=>true
 |x::l,y::m=>Ey x y&&sJ l m
 |_,_=>false
end
mutual
theorem Rk: ∀{x y:aC},Ey x y=true→x=y:=fun {x y} h=>by
 unfold Ey at h
 split at h
 ·rw[Rj h]
 ·rename_i a b;rw[vZ (l:=a) (m:=b) h]
 ·rename_i a b;rw[vZ (l:=a) (m:=b) h]
 ·simp only[Bool.and_eq_true]at h
  rw[eI h.1,eI h.2]
 ·simp only[Bool.and_eq_true]at h
  rw[eI h.1,eI h.2.1,eI h.2.2]
 ·rw[eI h]
 ·rename_i f a b g c d
  simp only[Bool.and_eq_true]at h;rw[Rl h.1,vZ (l:=a) (m:=c) h.2.1,vZ (l:=b) (m:=d) h.2.2]
 ·rw[eI h]
 ·simp only[Bool.and_eq_true]at h
  rw[eI h.1,eI h.2]
 ·rfl
 ·cases h
theorem vZ: ∀{l m:List aC},sJ l m=true→l=m:=fun {l m} h=>by
 unfold sJ at h
 split at h
 ·rfl
 ·rename_i x l y m
  simp only[Bool.and_eq_true]at h;rw[Rk (x:=x) (y:=y) h.1,vZ (l:=l) (m:=m) h.2]
 ·cases h
end
def A5:List (Value × List aU)→List (Value × List aU)→Bool
 |[],[]=>true
 |(k,x)::l,(a8,y)::m=>(Ew k a8&&vY x y)&&A5 l m
 |_,_=>false
theorem Rm: ∀{l m:List (Value × List aU)},A5 l m=true→l=m
 |[],[],_=>rfl
 |(k,x)::l,(a8,y)::m,h=>by
  simp only[A5,Bool.and_eq_true]at h;rw[Ri h.1.1,A4 h.1.2,Rm h.2]
 |[],_::_,h=>by cases h
 |_::_,[],h=>by simp[A5]at h
def Jn:il→il→Bool
 | .box t a,.box u b=>Nat.beq t u&&sJ a b
 | .row z t n a,.row y u m b=>(decide (z=y)&&Nat.beq t u)&&(Nat.beq n m&&A3 a b)
 | .it a p,.it b q=>gB a b&&Nat.beq p q
 | .mp a l,.mp b m=>decide (a=b)&&A5 l m
 |_,_=>false
theorem Zw{x y:il}(h:Jn x y=true):x=y:=by
 unfold Jn at h
 split at h
 ·simp only[Bool.and_eq_true]at h
  rw[eI h.1,vZ h.2]
 ·simp only[Bool.and_eq_true,decide_eq_true_eq]at h
  rw[h.1.1,eI h.1.2,eI h.2.1,Jm h.2.2]
 ·simp only[Bool.and_eq_true]at h
  rw[IS.1 h.1,eI h.2]
 ·simp only[Bool.and_eq_true,decide_eq_true_eq]at h
  rw[h.1,Rm h.2]
 ·cases h
def xX:et→et→Bool
 |[],[]=>true
 |(k,x)::l,(a8,y)::m=>(Nat.beq k a8&&Jn x y)&&xX l m
 |_,_=>false
theorem Jo: ∀{l m:et},xX l m=true→l=m
 |[],[],_=>rfl
 |(k,x)::l,(a8,y)::m,h=>by
  simp only[xX,Bool.and_eq_true]at h;rw[eI h.1.1,Zw h.1.2,Jo h.2]
 |[],_::_,h=>by cases h
 |_::_,[],h=>by simp[xX]at h
def o7:bd aC→bd aC→Bool
 | .emp,.emp=>true
 | .n none l r,.n none er eG=>o7 l er&&o7 r eG
 | .n (some v) l r,.n (some bu) er eG=>Ey v bu&&(o7 l er&&o7 r eG)
 |_,_=>false
theorem Zx: ∀{l m:bd aC},o7 l m=true→l=m:=fun {l}=>by
 induction l with
 |emp=>
  intro m h
  cases m with
  |emp=>rfl
  |n v l r=>simp[o7]at h
 |n v a b A6 EA=>
  intro m h
  cases m with
  |emp=>simp[o7]at h
  |n bu l r=>
   cases v with
   |none=>
    cases bu with
    |none=>
     simp only[o7,Bool.and_eq_true]at h;rw[A6 h.1,EA h.2]
    |some y=>simp[o7]at h
   |some x=>
    cases bu with
    |none=>simp[o7]at h
    |some y=>
     simp only[o7,Bool.and_eq_true]at h;rw[Rk h.1,A6 h.2.1,EA h.2.2]
def EB(S T:bD):Bool:=(o7 S.l T.l&&xX S.h T.h)&&(Nat.beq S.N T.N&&(Nat.beq S.n T.n&&Nat.beq S.b T.b))
theorem Rn{S T:bD}(h:EB S T=true):S=T:=by
 obtain⟨l,N,ab,n,b⟩:=S
 obtain⟨er,mN,sK,bL,gR⟩:=T
 simp only[EB,Bool.and_eq_true]at h
 rw[Zx h.1.1,Jo h.1.2,eI h.2.1,eI h.2.2.1,eI h.2.2.2]
def sL(P:Program)(G:aR)(ops:Array Oper)(o:Oper)(wr:Bool)(s s':aQ):Prop:=∀E a w,Rel E G s a w→
 (Region.wanted o (yielded ops a.tmps)=true∧∀(K:Act→World→Prop) (Q:Exit→Act→World→Prop),(∀bb w',Rel E G s' bb w'→(wr=true∨gg w w')→K bb w')→o.wp P a w K Q)∨
 (Region.wanted o (yielded ops a.tmps)=false∧Rel E G s' (a.put o.dst undef) w)
theorem sL.wr{P:Program}{G:aR}{ops:Array Oper}{o:Oper}{b gR:Bool}{s s':aQ}(h:sL P G ops o b s s')(ag:b=true→gR=true):sL P G ops o gR s s':=fun E a w ah=>by
 rcases h E a w ah with⟨ab,ae⟩|ae
 ·exact .inl ⟨ab,fun K Q hK=>ae K Q fun bb w' dF an=>hK bb w' dF (an.imp ag id)⟩
 ·exact .inr ae
section
variable {P:Program} {G:aR} {Q:Exit→aQ→Prop} {L:List Oper} {wr:List Bool}
theorem eN.Zy{fuel:Nat}{m:List Bool}{s:aQ}(bW:Region.ready .any L.toArray m.toArray≠[])(h: ∀i∈Region.ready .any L.toArray m.toArray,∃o t,L[i]? =some o∧sL P G L.toArray o (wr.getD i false) s t∧eN P G L Q wr fuel (m.set i true) t):eN P G L Q wr (fuel+1) m s:=by
 intro E a w ah
 refine⟨fun hn=>absurd hn bW,fun j aj=>?_⟩
 obtain⟨o,t,au,ao,k⟩:=h j aj
 have eA:m.toArray.setIfInBounds j true=(m.set j true).toArray:=by simp
 have next: ∀bb w',Rel E G t bb w'→(wr.getD j false=true∨gg w w')→(wr.getD j false=true∧wpAny P .any L.toArray (lift E G (ny Q)) fuel (m.toArray.setIfInBounds j true) bb w')∨(wr.getD j false=false∧gg w w'∧nz P L.toArray (lift E G (ny Q)) (gg w) (fun i=>wr.getD i false) fuel (m.toArray.setIfInBounds j true) bb w'):=fun bb w' dF an=>by
  rw[eA]
  cases hw:wr.getD j false with
  |true=>exact .inl ⟨rfl,k.c7 E bb w' dF⟩
  |false=>
   rcases an with an|an
   ·rw[hw]at an;cases an
   ·exact .inr ⟨rfl,an,A7 (fun dV ae=>an.trans ae) _ _ _ _ (k E bb w' dF)⟩
 unfold wpOp
 rw[show L.toArray[j]? =some o from by simpa using au]
 simp only
 rcases ao E a w ah with⟨fH,aw⟩|⟨fH,aw⟩
 ·rw[if_pos fH]
  exact .inl (aw _ _ next)
 ·rw[if_neg (by rw[fH];decide)]
  exact next _ _ aw (.inr (gg.refl w))
theorem eN.le{fuel:Nat}{m:List Bool}{s s':aQ}(av:bV s s')(h:eN P G L Q wr fuel m s'):eN P G L Q wr fuel m s:=fun E a w ah=>h E a w (av E G a w ah)
end
def A8(ops:Array Oper)(S:bD)(o:Oper):Option Bool:=
 match o.guard with
 |none=>some true
 |some (j,b)=>match mQ ops j with
  |some d=>match Nat.blt d S.N with
   |true=>match S.at d with
    | .ad (.v (.bool c))=>some (match b,c with
     |true,true=>true
     |false,false=>true
     |_,_=>false)
    | .tuple _=>some false
    |_=>none
   |false=>none
  |none=>none
theorem xY{ops:Array Oper}{S:bD}{o:Oper}{b:Bool}(h:A8 ops S o=some b):eS ops S.den o=some b:=by
 unfold A8 at h
 unfold eS
 split at h
 ·rename_i ai;rw[ai];exact h
 ·rename_i j c ai
  rw[ai];simp only
  split at h
  ·rename_i d hd
   rw[hd];simp only
   split at h
   ·rename_i av
    rw[IP,av];simp only
    split at h
    ·rename_i x hx;rw[hx];exact h
    ·rename_i x hx;rw[hx];exact h
    ·cases h
   ·cases h
  ·cases h
def xZ(P:Program)(G:aR)(bZ:fe)(ops:Array Oper)(o:Oper)(S:bD):Option bD:=
 match A8 ops S o with
 |some true=>Je P G bZ o (Ep G o S)
 |some false=>some (S.put o.dst (.tuple []))
 |none=>none
def Jp(P:Program)(G:aR)(ops:Array Oper)(o:Oper)(S:bD):Bool:=
 match A8 ops S o with
 |some true=>Jf P G (Ep G o S) o
 |_=>false
def A9(P:Program)(G:aR)(bZ:fe)(ops:Array Oper):List Oper→bD→Option bD
 |[],S=>some S
 |o::r,S=>match xZ P G bZ ops o S with
  |some aO=>A9 P G bZ ops r aO
  |none=>none
def Jq(P:Program)(G:aR)(ops:Array Oper)(o:Oper)(S:bD):Option (Bool × bD):=
 match A8 ops S o with
 |some false=>some (true,S.put o.dst (.tuple []))
 |some true=>match Y2 P (fc G S) (cX S.h) o with
  |some v=>some (true,S.put o.dst v)
  |none=>match Y3 P (fc G S) o with
   |some v=>some (true,S.put o.dst v)
   |none=>match Y4 P (fc G S) (cX S.h) o with
    |some v=>some (false,S.put o.dst v)
    |none=>match AW o with
     |true=>none
     |false=>match Ed P G o S with
      |some (.ad (.v x))=>some (false,S.put o.dst (.ad (.v x)))
      |_=>none
 |none=>none
def EC(P:Program)(o:Oper)(S:bD):bD:=
 match AW o,AX P o,o.op with
 |true,false,.call c=>En c.args.toList S
 |_,_,_=>S
theorem Zz(P:Program)(o:Oper)(S:bD):bV S.den (EC P o S).den:=by
 unfold EC
 split
 ·exact Eo _ _
 ·exact bV.refl _
theorem sL.le{P:Program}{G:aR}{ops:Array Oper}{o:Oper}{b:Bool}{s s1 s':aQ}(av:bV s s1)(h:sL P G ops o b s1 s'):sL P G ops o b s s':=fun E a w ah=>h E a w (av E G a w ah)
section
variable {P:Program} {G:aR} {bZ:fe} {ops:Array Oper} {o:Oper} {S bP:bD}
theorem Ro(e4:hA P G bZ)(h:xZ P G bZ ops o S=some bP):sL P G ops o (Jp P G ops o S) S.den bP.den:=by
 unfold xZ at h
 split at h
 ·rename_i ED
  have ai:=xY ED
  obtain⟨ab,ae⟩:=Rh e4 h
  have hle:bV S.den (Ep G o S).den:=Eo _ _
  intro E a w ah;refine .inl ⟨mh ah ai,fun K Q hK=>?_⟩
  rcases ae with ae|ae
  ·exact ab E a w (hle E G a w ah) K Q fun bb w' dF=>hK bb w' dF (.inl (by unfold Jp;rw[ED];exact ae))
  ·exact ae E a w (hle E G a w ah) K Q fun bb w' dF an=>hK bb w' dF (.inr an)
 ·rename_i ai
  have ai:=xY ai
  cases h;intro E a w ah;exact .inr ⟨mh ah ai,by rw[h1];exact ah.x1 o.dst⟩
 ·cases h
theorem Jr(e4:hA P G bZ){Q:Exit→aQ→Prop}: ∀{l:List Oper} {S bP:bD},A9 P G bZ ops l S=some bP→Q .normal bP.den→c8 P G ops Q l S.den
 |[],S,bP,h,aG=>by
  cases h;exact c8.nil aG
 |o::r,S,bP,h,aG=>by
  simp only[A9]at h
  split at h
  ·rename_i aO ab
   have aY:=Jr e4 h aG
   unfold xZ at ab
   split at ab
   ·rename_i ai
    have ai:=xY ai
    have hle:bV S.den (Ep G o S).den:=Eo _ _
    exact c8.step ai (fun E a w ah K Q hK=>(Rh e4 ab).1 E a w (hle E G a w ah) K Q hK) aY
   ·rename_i ai
    have ai:=xY ai
    cases ab;rw[h1]at aY;exact c8.pass ai aY
   ·cases ab
  ·cases h
theorem Rp{b:Bool}(h:Jq P G ops o S=some (b,bP)):(b=true∧gL P G ops o S.den bP.den)∨(b=false∧jd P G ops o S.den bP.den):=by
 unfold Jq at h
 rw[ui]at h
 split at h
 ·rename_i ai
  have ai:=xY ai
  cases h;exact .inl ⟨rfl,by rw[h1];exact gL.skip ai⟩
 ·rename_i ai
  have ai:=xY ai
  split at h
  ·rename_i v az
   cases h;exact .inl ⟨rfl,by rw[h1];exact gL.val az ai⟩
  ·split at h
   ·rename_i v az
    cases h;exact .inl ⟨rfl,by rw[h1];exact gL.ZA az ai⟩
   ·split at h
    ·rename_i v az
     cases h;exact .inr ⟨rfl,by rw[h1];exact jd.load az ai⟩
    ·split at h
     ·cases h
     ·split at h
      ·rename_i x az
       cases h;exact .inr ⟨rfl,by rw[h1];exact jd.sM (I2 az) ai⟩
      ·cases h
 ·cases h
end
end Go.aK
