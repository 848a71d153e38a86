/- CE, part F: code and functions of a closed run. Conditions: none. -/
import Derived.Test.YtddeffoppnlafaaGreatKCEm
import Derived.LoopN
namespace Go.aK
open Go
inductive lQ where
 |b8
 |ext (id:Nat)
 |ret
def lQ.ex:lQ→Exit
 | .b8=>.normal
 | .ext id=>.exit id
 | .ret=>.ret
abbrev Rec:=Code→bD→Option (lQ × bD)
def EE(rec:Rec)(c:Code):Nat→bD→Option (lQ × bD)
 |0,_=>none
 |n+1,S=>match rec c S with
  |some (.b8,aO)=>EE rec c n aO
  |r=>r
def EF(P:Program)(G:aR)(bZ:fe)(rec:Rec):Code→bD→Option (lQ × bD)
 | .skip,S=>some (.b8,S)
 | .ret,S=>some (.ret,S)
 | .exit id,S=>some (.ext id,S)
 | .seq a b,S=>match rec a S with
  |some (.b8,aO)=>rec b aO
  |r=>r
 | .cond x a b,S=>match fc G S x with
  | .ad (.v (.bool true))=>rec a S
  | .ad (.v (.bool false))=>rec b S
  |_=>none
 | .block id c,S=>match rec c S with
  |some (.ext j,aO)=>match Nat.beq j id with
   |true=>some (.b8,aO)
   |false=>some (.ext j,aO)
  |r=>r
 | .loop c,S=>EE rec c 100000 S
 | .region _ ops mi,S=>match mi with
  |true=>match Js P G bZ ops S with
   |some aO=>some (.b8,aO)
   |none=>none
  |false=>match A9 P G bZ ops ops.toList S with
   |some aO=>some (.b8,aO)
   |none=>none
 |_,_=>none
def rr(P:Program)(G:aR)(rec:Rec):Prop:=∀c S e bP,rec c S=some (e,bP)→b2 P G c (fun ex st=>ex=e.ex∧st=bP.den) S.den
section
variable {P:Program} {G:aR} {bZ:fe} {rec:Rec}
theorem Rq(ah:rr P G rec){c:Code}: ∀{n:Nat} {S bP:bD} {e:lQ},EE rec c n S=some (e,bP)→∀E a w,Rel E G S.den a w→Code.rounds P c (lift E G fun ex st=>ex=e.ex∧st=bP.den) n a w
 |n+1,S,bP,e,h,E,a,w,dE=>by
  simp only[EE]at h;rw[rounds_succ]
  split at h
  ·rename_i aO ab
   refine wp_mono (ah c S _ aO ab E a w dE) fun ex bb w' ⟨st,⟨ae,aw⟩,aM⟩=>?_
   subst ae aw;exact Rq ah h E bb w' aM
  ·rename_i bW
   have bW: ∀aO,rec c S≠some (.b8,aO):=bW
   refine wp_mono (ah c S e bP h E a w dE) fun ex bb w' ⟨st,⟨ae,aw⟩,aM⟩=>?_
   subst ae aw
   cases e with
   |b8=>exact absurd h (bW bP)
   |ext id=>exact⟨_,⟨rfl,rfl⟩,aM⟩
   |ret=>exact⟨_,⟨rfl,rfl⟩,aM⟩
theorem Rr(e4:hA P G bZ)(ah:rr P G rec):rr P G (EF P G bZ rec):=by
 intro c S e bP h
 unfold EF at h
 split at h
 ·cases h;exact b2.skip ⟨rfl,rfl⟩
 ·cases h;exact b2.ret ⟨rfl,rfl⟩
 ·cases h;exact b2.exit ⟨rfl,rfl⟩
 ·rename_i x y
  split at h
  ·rename_i aO ab
   refine b2.seq (b2.mono (ah _ _ _ _ ab) fun ex st ⟨ae,aw⟩=>?_)
   subst ae aw;exact ah _ _ _ _ h
  ·rename_i bW
   have bW: ∀aO,rec x S≠some (.b8,aO):=bW
   refine b2.seq (b2.mono (ah _ _ _ _ h) fun ex st ⟨ae,aw⟩=>?_)
   subst ae aw
   cases e with
   |b8=>exact absurd h (bW bP)
   |ext id=>exact⟨rfl,rfl⟩
   |ret=>exact⟨rfl,rfl⟩
 ·rename_i x y z
  split at h
  ·rename_i hx
   rw[ui]at hx;exact b2.Jt hx (ah _ _ _ _ h)
  ·rename_i hx
   rw[ui]at hx;exact b2.Ju hx (ah _ _ _ _ h)
  ·cases h
 ·rename_i id c
  split at h
  ·rename_i j aO ab
   refine b2.block (b2.mono (ah _ _ _ _ ab) fun ex st ⟨ae,aw⟩=>?_)
   subst ae aw
   split at h
   ·rename_i ag
    cases h
    have ag:=eI ag
    subst ag;simp only[EG,lQ.ex,if_true]
    first|exact⟨rfl,rfl⟩|simp
   ·rename_i ag
    cases h
    have ag:=ug ag
    simp only[EG,lQ.ex,if_neg ag]
    first|exact⟨rfl,rfl⟩|(simp;done)|exact⟨ag,rfl,rfl⟩|simpa using ag
  ·rename_i bW
   have bW: ∀j aO,rec c S≠some (.ext j,aO):=bW
   refine b2.block (b2.mono (ah _ _ _ _ h) fun ex st ⟨ae,aw⟩=>?_)
   subst ae aw
   cases e with
   |b8=>exact⟨rfl,rfl⟩
   |ext id=>exact absurd h (bW id bP)
   |ret=>exact⟨rfl,rfl⟩
 ·rename_i c
  exact fun E a w dE=>wp_loop_rounds _ (Rq ah h E a w dE)
 ·rename_i id ops mi
  split at h
  ·split at h
   ·rename_i aO ab
    cases h;exact ZB e4 ab ⟨rfl,rfl⟩
   ·cases h
  ·split at h
   ·rename_i aO ab
    cases h
    have h4:ops=ops.toList.toArray:=by simp
    have:=Jr (Q:=fun ex st=>ex=lQ.b8.ex∧st=bP.den) e4 ab ⟨rfl,rfl⟩
    rw[h4];refine b2.region ?_
    rw[←h4];exact this
   ·cases h
 ·cases h
end
def Ba(n:Nat)(ids:List Nat):et→et
 |[]=>[]
 |(k,o)::r=>match Nat.blt k n||x2 k ids with
  |true=>(k,o)::Ba n ids r
  |false=>Ba n ids r
def Rs(n:Nat)(r:aC)(h:et):et:=Ba n (reach h n 100000 (Jv r++EH n h) []) h
theorem EI{n:Nat}{ids:List Nat}: ∀{h:et} {id:Nat} {o:ec},(h.map (·.1)).Nodup→aE (cX (Ba n ids h)) id=some o→aE (cX h) id=some o
 |(k,x)::r,id,o,hn,h=>by
  simp only[List.map_cons,List.nodup_cons]at hn;simp only[Ba]at h;simp only[cX,aE]
  have mem: ∀{h:et} {id:Nat} {o:ec},aE (cX h) id=some o→id∈h.map (·.1):=fun {h id o} ai=>by
   induction h with
   |nil=>cases ai
   |cons p q aY=>
    obtain⟨j,y⟩:=p;simp only[cX,aE]at ai
    split at ai
    ·rename_i aj;subst aj;exact .head _
    ·exact .tail _ (aY ai)
  split at h
  ·simp only[cX,aE]at h
   split at h
   ·rename_i an;rw[if_pos an];exact h
   ·rename_i an;rw[if_neg an];exact EI hn.2 h
  ·have ab:=EI hn.2 h
   split
   ·rename_i an
    subst an;exact absurd (mem ab) hn.1
   ·exact ab
def Bb:List Nat→Bool
 |[]=>true
 |x::r=>!(x2 x r)&&Bb r
theorem Rt{x:Nat}: ∀{l:List Nat},x2 x l=false→x ∉ l
 |[],_=>by simp
 |y::r,h=>by
  simp only[x2]at h
  split at h
  ·cases h
  ·rename_i ag
   have:=ug ag
   simp[this,Rt h]
theorem Jw: ∀{l:List Nat},Bb l=true→l.Nodup
 |[],_=>List.nodup_nil
 |x::r,h=>by
  simp only[Bb,Bool.and_eq_true,Bool.not_eq_true']at h;exact List.nodup_cons.2 ⟨Rt h.1,Jw h.2⟩
def uv(P:Program)(rec:Rec)(f:FuncId)(args:List aC)(h:et)(n:Nat):Option (aC × et × Nat):=
 match P.funcs[f]? with
 |some fn=>match fn.body with
  |some c=>match rec c ⟨vP args 0 .emp,args.length+(fn.ntmps-args.length),h,n,n⟩with
   |some (.ext _,_)=>none
   |some (_,S)=>match rk P fn S.den,Bb (S.h.map (·.1))with
    |some r,true=>some (r,Rs n r S.h,S.n)
    |_,_=>none
   |none=>none
  |none=>none
 |none=>none
theorem x3{P:Program}{G:aR}{rec:Rec}(ah:rr P G rec):hA P G (uv P rec):=by
 intro f args h n r h' bL hc
 unfold uv at hc
 split at hc
 ·rename_i fn hf
  split at hc
  ·rename_i c ag
   split at hc
   ·cases hc
   ·rename_i e S bW ab
    split at hc
    ·rename_i eG ko eE
     cases hc
     have ir:=ah _ _ _ _ ab
     simp only[bD.den,QQ]at ir;refine lO.body hf ag (b2.mono ir fun ex st ⟨ae,aw⟩=>?_)
     subst ae aw;refine⟨?_,ko,fun id o ai=>EI (Jw eE) ai,rfl⟩
     cases e with
     |b8=>exact .inl rfl
     |ret=>exact .inr rfl
     |ext id=>exact(bW id rfl).elim
    ·cases hc
   ·cases hc
  ·cases hc
 ·cases hc
def je(known:fe)(bZ:fe):fe:=fun f args h n=>match known f args h n with
 |some r=>some r
 |none=>bZ f args h n
theorem jG{P:Program}{G:aR}{k bZ:fe}(ab:hA P G k)(ae:hA P G bZ):hA P G (je k bZ):=by
 intro f args h n r h' bL hc
 unfold je at hc
 split at hc
 ·rename_i q aG
  cases hc;exact ab _ _ _ _ _ _ _ aG
 ·exact ae _ _ _ _ _ _ _ hc
def EJ(P:Program)(G:aR)(known:fe):Nat→Rec
 |0=>fun _ _=>none
 |n+1=>EF P G (je known (uv P (EJ P G known n))) (EJ P G known n)
theorem Jx{P:Program}{G:aR}{known:fe}(an:hA P G known): ∀n,rr P G (EJ P G known n)
 |0=>fun _ _ _ _ h=>by cases h
 |n+1=>Rr (jG an (x3 (Jx an n))) (Jx an n)
def Ru(P:Program)(G:aR)(known:fe)(n:Nat):fe:=je known (uv P (EJ P G known n))
theorem ZC{P:Program}{G:aR}{known:fe}(an:hA P G known)(n:Nat):hA P G (Ru P G known n):=jG an (x3 (Jx an n))
end Go.aK
