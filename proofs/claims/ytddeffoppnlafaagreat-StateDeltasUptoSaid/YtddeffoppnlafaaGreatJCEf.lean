/- Conditions: none. -/
import Derived.Test.YtddeffoppnlafaaGreatJCEm
import Derived.LoopN
namespace Go.aH
open Go
inductive m8 where
 |cp
 |ext (id:Nat)
 |ret
def m8.ex:m8->Exit
 | .cp=>.normal| .ext id=>.exit id| .ret=>.ret
abbrev Rec:=Code->bS->Option (m8 × bS)
def Hy(rec:Rec)(c:Code):Nat->bS->Option (m8 × bS)
 |0,_=>none|n+1,S=>match rec c S with
  |some (.cp,aM)=>Hy rec c n aM|r=>r
def Hz(P:Program)(G:aV)(bX:fB)(rec:Rec):Code->bS->Option (m8 × bS)
 | .skip,S=>some (.cp,S)| .ret,S=>some (.ret,S)| .exit id,S=>some (.ext id,S)| .seq a b,S=>match rec a S with
  |some (.cp,aM)=>rec b aM|r=>r
 | .cond x a b,S=>match fA G S x with
  | .ad (.v (.bool true))=>rec a S| .ad (.v (.bool false))=>rec b S|_=>none
 | .block id c,S=>match rec c S with
  |some (.ext j,aM)=>match Nat.beq j id with
   |true=>some (.cp,aM)|false=>some (.ext j,aM)
  |r=>r
 | .loop c,S=>Hy rec c 100000 S| .region _ ops nK,S=>match nK with
  |true=>match MH P G bX ops S with
   |some aM=>some (.cp,aM)|none=>none
  |false=>match DH P G bX ops ops.toList S with
   |some aM=>some (.cp,aM)|none=>none
 |_,_=>none
def tt(P:Program)(G:aV)(rec:Rec):Prop:=∀c S e bV,rec c S=some (e,bV)->cb P G c (λex st=>ex=e.ex/\st=bV.den) S.den
section
variable {P:Program} {G:aV} {bX:fB} {rec:Rec}
theorem T5(ah:tt P G rec){c:Code}: ∀{n:Nat} {S bV:bS} {e:m8},Hy rec c n S=some (e,bV)->∀E a w,Rel E G S.den a w->Code.rounds P c (lift E G λex st=>ex=e.ex/\st=bV.den) n a w
 |n+1,S,bV,e,h,E,a,w,dO=>by
  simp only[Hy]at h;rw[rounds_succ]
  split at h
  ·rename_i aM aa
   refine wp_mono (ah c S _ aM aa E a w dO) λex bo w' ⟨st,⟨ae,aw⟩,aN⟩=>?_;subst ae aw;exact T5 ah h E bo w' aN
  ·rename_i b6
   have b6: ∀aM,rec c S≠some (.cp,aM):=b6;refine wp_mono (ah c S e bV h E a w dO) λex bo w' ⟨st,⟨ae,aw⟩,aN⟩=>?_;subst ae aw
   cases e with
   |cp=>exact absurd h (b6 bV)|ext id=>exact⟨_,⟨rfl,rfl⟩,aN⟩|ret=>exact⟨_,⟨rfl,rfl⟩,aN⟩
theorem T6(fv:ia P G bX)(ah:tt P G rec):tt P G (Hz P G bX rec):=by
 intro c S e bV h;unfold Hz at h
 split at h
 ·cases h;exact cb.skip ⟨rfl,rfl⟩
 ·cases h;exact cb.ret ⟨rfl,rfl⟩
 ·cases h;exact cb.exit ⟨rfl,rfl⟩
 ·rename_i x y
  split at h
  ·rename_i aM aa
   refine cb.seq (cb.mono (ah _ _ _ _ aa) λex st ⟨ae,aw⟩=>?_);subst ae aw;exact ah _ _ _ _ h
  ·rename_i b6
   have b6: ∀aM,rec x S≠some (.cp,aM):=b6;refine cb.seq (cb.mono (ah _ _ _ _ h) λex st ⟨ae,aw⟩=>?_);subst ae aw
   cases e with
   |cp=>exact absurd h (b6 bV)|ext id=>exact⟨rfl,rfl⟩|ret=>exact⟨rfl,rfl⟩
 ·rename_i x y z
  split at h
  ·rename_i hx
   rw[wA]at hx;exact cb.MI hx (ah _ _ _ _ h)
  ·rename_i hx
   rw[wA]at hx;exact cb.MJ hx (ah _ _ _ _ h)
  ·cases h
 ·rename_i id c
  split at h
  ·rename_i j aM aa
   refine cb.block (cb.mono (ah _ _ _ _ aa) λex st ⟨ae,aw⟩=>?_);subst ae aw
   split at h
   ·rename_i af
    cases h
    have af:=e9 af;subst af;simp only[HA,m8.ex,if_true]
    first|exact⟨rfl,rfl⟩|simp
   ·rename_i af
    cases h
    have af:=wy af;simp only[HA,m8.ex,if_neg af]
    first|exact⟨rfl,rfl⟩|(simp;done)|exact⟨af,rfl,rfl⟩|simpa using af
  ·rename_i b6
   have b6: ∀j aM,rec c S≠some (.ext j,aM):=b6;refine cb.block (cb.mono (ah _ _ _ _ h) λex st ⟨ae,aw⟩=>?_);subst ae aw
   cases e with
   |cp=>exact⟨rfl,rfl⟩|ext id=>exact absurd h (b6 id bV)|ret=>exact⟨rfl,rfl⟩
 ·rename_i c
  exact λE a w dO=>wp_loop_rounds _ (T5 ah h E a w dO)
 ·rename_i id ops nK
  split at h
  ·split at h
   ·rename_i aM aa
    cases h;exact zdG fv aa ⟨rfl,rfl⟩
   ·cases h
  ·split at h
   ·rename_i aM aa
    cases h
    have hQ:ops=ops.toList.toArray:=by simp
    have:=MG (Q:=λex st=>ex=m8.cp.ex/\st=bV.den) fv aa ⟨rfl,rfl⟩;rw[hQ];refine cb.region ?_;rw[<-hQ];exact this
   ·cases h
 ·cases h
end
def DI(n:Nat)(ids:List Nat):eM->eM
 |[]=>[]|(k,o)::r=>match Nat.blt k n||AK k ids with
  |true=>(k,o)::DI n ids r|false=>DI n ids r
def T7(n:Nat)(r:aC)(h:eM):eM:=DI n (reach h n 100000 (MK r++HB n h) []) h
theorem HC{n:Nat}{ids:List Nat}: ∀{h:eM} {id:Nat} {o:ey},(h.map (·.1)).Nodup->aF (c7 (DI n ids h)) id=some o->aF (c7 h) id=some o
 |(k,x)::r,id,o,hn,h=>by
  simp only[List.map_cons,List.nodup_cons]at hn;simp only[DI]at h;simp only[c7,aF]
  have mem: ∀{h:eM} {id:Nat} {o:ey},aF (c7 h) id=some o->id∈h.map (·.1):=λ{h id o} ai=>by
   induction h with
   |nil=>cases ai
   |cons p q bb=>
    obtain⟨j,y⟩:=p;simp only[c7,aF]at ai
    split at ai
    ·rename_i aj;subst aj;exact .head _
    ·exact .tail _ (bb ai)
  split at h
  ·simp only[c7,aF]at h
   split at h
   ·rename_i an;rw[if_pos an];exact h
   ·rename_i an;rw[if_neg an];exact HC hn.2 h
  ·have aa:=HC hn.2 h
   split
   ·rename_i an
    subst an;exact absurd (mem aa) hn.1
   ·exact aa
def DJ:List Nat->Bool
 |[]=>true|x::r=>!(AK x r)&&DJ r
theorem T8{x:Nat}: ∀{l:List Nat},AK x l=false->x ∉ l
 |[],_=>by simp|y::r,h=>by
  simp only[AK]at h
  split at h
  ·cases h
  ·rename_i af
   have:=wy af;simp[this,T8 h]
theorem ML: ∀{l:List Nat},DJ l=true->l.Nodup
 |[],_=>List.nodup_nil|x::r,h=>by
  simp only[DJ,Bool.and_eq_true,Bool.not_eq_true']at h;exact List.nodup_cons.2 ⟨T8 h.1,ML h.2⟩
def wI(P:Program)(rec:Rec)(f:FuncId)(args:List aC)(h:eM)(n:Nat):Option (aC × eM × Nat):=
 match P.funcs[f]? with
 |some fn=>match fn.body with
  |some c=>match rec c ⟨ya args 0 .emp,args.length+(fn.ntmps-args.length),h,n,n⟩with
   |some (.ext _,_)=>none|some (_,S)=>match tk P fn S.den,DJ (S.h.map (·.1))with
    |some r,true=>some (r,T7 n r S.h,S.n)|_,_=>none
   |none=>none
  |none=>none
 |none=>none
theorem AL{P:Program}{G:aV}{rec:Rec}(ah:tt P G rec):ia P G (wI P rec):=by
 intro f args h n r h' b0 hc;unfold wI at hc
 split at hc
 ·rename_i fn hf
  split at hc
  ·rename_i c af
   split at hc
   ·cases hc
   ·rename_i e S b6 aa
    split at hc
    ·rename_i e5 ly e3
     cases hc
     have jj:=ah _ _ _ _ aa;simp only[bS.den,Tw]at jj;refine m6.body hf af (cb.mono jj λex st ⟨ae,aw⟩=>?_);subst ae aw;refine⟨?_,ly,λid o ai=>HC (ML e3) ai,rfl⟩
     cases e with
     |cp=>exact .inl rfl|ret=>exact .inr rfl|ext id=>exact(b6 id rfl).elim
    ·cases hc
   ·cases hc
  ·cases hc
 ·cases hc
def jX(known:fB)(bX:fB):fB:=λf args h n=>match known f args h n with
 |some r=>some r|none=>bX f args h n
theorem ky{P:Program}{G:aV}{k bX:fB}(aa:ia P G k)(ae:ia P G bX):ia P G (jX k bX):=by
 intro f args h n r h' b0 hc;unfold jX at hc
 split at hc
 ·rename_i q aB
  cases hc;exact aa _ _ _ _ _ _ _ aB
 ·exact ae _ _ _ _ _ _ _ hc
def HD(P:Program)(G:aV)(known:fB):Nat->Rec
 |0=>λ_ _=>none
 |n+1=>Hz P G (jX known (wI P (HD P G known n))) (HD P G known n)
theorem MM{P:Program}{G:aV}{known:fB}(an:ia P G known): ∀n,tt P G (HD P G known n)
 |0=>λ_ _ _ _ h=>by cases h
 |n+1=>T6 (ky an (AL (MM an n))) (MM an n)
def T9(P:Program)(G:aV)(known:fB)(n:Nat):fB:=jX known (wI P (HD P G known n))
theorem zdH{P:Program}{G:aV}{known:fB}(an:ia P G known)(n:Nat):ia P G (T9 P G known n):=ky an (AL (MM an n))
end Go.aH
