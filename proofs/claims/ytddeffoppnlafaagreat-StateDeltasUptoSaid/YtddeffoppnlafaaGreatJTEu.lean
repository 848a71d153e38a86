/- Conditions: none. -/
import Derived.Test.YtddeffoppnlafaaGreatJTEv
namespace Go.aH
open Go
section
variable {P:Program} {G:aV} {f:FuncId} {args:List aC} {σ:bK} {n:Nat} {R q1:aC->bK->Prop}
theorem fa.le(h:fa P G f args σ n R)(iZ: ∀r cu,R r cu->∃e5 gW,(∀m b,b5 ⟨[r],cu,m,b⟩ ⟨[e5],gW,m,b⟩)/\q1 e5 gW):fa P G f args σ n q1:=by
 intro w β ro dY aa ae aw aN bx;refine Calls.mono (h w β ro dY aa ae aw aN bx) λe w' ⟨v,r,cu,cS,ro',b0,he,ah,dO,gk,cP⟩=>?_;obtain⟨e5,gW,hle,aB⟩:=iZ r cu ah;have ai:qI w' ro' G:=aN.keep (λb af=>cP.frame b (aw.lt b af) λav=>aw.fy b af av) cP.hp
 have MY:dy ⟨w,ro,σ,β,n,[]⟩ G ⟨[r],cu,b0,n⟩ {tmps:=#[v],defers:=[]} w' cS ro':=⟨rfl,rfl,λi x hi=>by
  cases i with
  |zero=>cases hi;exact dO
  |succ i=>simp at hi,gk,ai,cP,Nat.le_refl _⟩
 obtain⟨uY,wL,cB⟩:=hle b0 n ⟨w,ro,σ,β,n,[]⟩ G _ w' ⟨cS,ro',MY⟩;exact⟨v,e5,gW,uY,wL,b0,he,aB,by simpa using cB.slot 0 e5 rfl,cB.heap,cB.trans⟩
end
theorem zl7(S:ax)(m id:Nat):sN {S with n:=m} id={sN S id with n:=m}:=by
 unfold sN
 cases ai:dG S.h id with
 |none=>simp only[ai]|some o=>
  simp only[ai]
  split
  ·rename_i c r k heq
   cases heq
   split<;>rename_i ah<;>simp only[ah,Ko]
  ·rename_i b6
   rfl
theorem zaR(m:Nat): ∀(ys:List ag) (S:ax),kM ys {S with n:=m}={kM ys S with n:=m}
 |[],_=>rfl|a::r,S=>by
  have bb:=zaR m r
  cases a with
  |aq id=>
   show kM r (sN {S with n:=m} id)={kM r (sN S id)with n:=m}
   rw[zl7];exact bb _
  |_=>exact bb S
def Lb:ag->List ag
 | .tp l=>Cj l|y=>Cj [y]
def zaS(l:List ag):List ax->Bool
 |[]=>false|S::r=>!(pG (Lb (S.at 0)) l)||zaS l r
def zaT:List ax->Bool
 |[]=>false|S::r=>zaS (Lb (S.at 0)) r
def Lc(g:ax->List ag)(C:ax):aG:=.db .cp (kM (g C) C)
def zaU(C:ax):aG:=Lc (λC=>Lb (C.at 0)) C
def RY(inl:Nat->List ag->ax->aG)(f:Nat)(ys:List ag)(S:ax):aG:=
 match inl f ys S with
 |t=>match zaT t.gV with
  |true=>t.fe zaU none|false=>t
def NG(inl:Nat->List ag->ax->aG)(f:Nat)(ys:List ag)(S:ax):aG:=(inl f ys S).fe zaU none
section
variable {P:Program} {G:aV} {M:List bs} {inl:Nat->List ag->ax->aG}
theorem zaV(S:ax)(e:Env)(B:Nat):S.den G 1 B e=⟨[(S.at 0).den G e],di G e S.h,S.n,B⟩:=by
 unfold ax.den ax.at
 simp only[lb]
 cases S.l.get 0<;>rfl
theorem zaW(g:ax->List ag)(cO:gK P G M inl):gK P G M (λf ys S=>(inl f ys S).fe (Lc g) none):=λf ys S e af au hf ao=>by
 obtain⟨g1,g2,g3⟩:=kK (inl f ys S) none ao;refine(cO f ys S e af au hf g1).le λr cu ⟨C,aD,aO,bz,bd,dV,eK,ij,gg⟩=>?_;obtain⟨_,_,f3,_⟩:=Cr (G:=G) (N:=1) (B:=0) (e:=aD) (g C) dV eK;obtain⟨f1,f2,_,_⟩:=Cr (G:=G) (N:=1) (B:=0) (e:=aD) (g C) dV eK;refine⟨((kM (g C) C).at 0).den G aD,di G aD (kM (g C) C).h,λm b=>?_,kM (g C) C,aD,?_,rfl,rfl,f1,f2,ij,by rw[f3];exact gg⟩
 ·have hB:({C with n:=m}:ax).cU:=⟨dV.l,dV.h,dV.g⟩
  have an:=(Cr (G:=G) (N:=1) (B:=b) (e:=aD) (g C) hB (show({C with n:=m}:ax).cV aD from eK)).2.2.2
  rw[zaR,zaV,zaV]at an;rw[bz,bd];exact an
 ·show run M ((inl f ys S).fe (Lc g) none) e=_
  rw[g2,aO];rfl
theorem V7(cO:gK P G M inl):gK P G M (NG inl):=zaW _ cO
theorem zl8(cO:gK P G M inl):gK P G M (RY inl):=λf ys S e af au hf ao=>by
 unfold RY at ao⊢
 cases hm:zaT (inl f ys S).gV with
 |true=>
  simp only[hm]at ao⊢;exact V7 cO f ys S e af au hf ao
 |false=>
  simp only[hm]at ao⊢;exact cO f ys S e af au hf ao
end
@[reducible] def zpa(inl:Nat->List ag->ax->aG):Nat->List ag->ax->aG:=inl
def NC(P:Program)(H:tL)(T:List (Nat × bZ))(Z:Nat × Nat × Nat)(W:(Nat->List ag->ax->aG)->Nat->List ag->ax->aG)(B:List mM)(C:List kD):Nat->Nat->List ag->ax->aG
 |0=>λ_ _ _=>.bad 40
 |n+1=>RY (QC P H T (W (RZ Z.1 Z.2.1 Z.2.2 (R0 B (Rn C (NC P H T Z W B C n))))))
section
variable {P:Program} {G:aV} {M:List bs}
theorem V6{Z:Nat × Nat × Nat}{W:(Nat->List ag->ax->aG)->Nat->List ag->ax->aG}{B:List mM}{C:List kD}{H:tL}{T:List (Nat × bZ)}(zP:QD P G M H)(mH: ∀{inl},gK P G M inl->gK P G M (W inl))(yo:AP P G Z.1 Z.2.1 Z.2.2)(gO:NF P G M B)(my:w7 P G M C): ∀n,gK P G M (NC P H T Z W B C n)
 |0=>λ_ _ _ _ _ _ _ h=>h.elim
 |n+1=>zl8 (zkl zP (mH (zl9 yo (zma gO (zlm my (V6 zP mH yo gO my n))))))
end
end Go.aH
namespace Go.aH
open Go
def zmb(c:bZ)(C:ax):List ag:=(Lb (C.at 0)).filter λx=>match x with
 | .aq id=>match dG C.h id with
  |some (.rw _ d _)=>!decide (d=c)|_=>true
 |_=>true
def R1{α:Type}(f:Nat):List (Nat × α)->Option α
 |[]=>none|(g,x)::r=>match Nat.beq g f with
  |true=>some x|false=>R1 f r
def zmc(S:ax)(ys:List ag)(a j:Nat):Bool:=
 match fQ .top ys a with
 | .fi id _=>match dG S.h id with
  |some (.dQ _ l)=>match fQ .top l j with
   | .aq _=>true|_=>false
  |_=>false
 |_=>false
def ND(uM:List (Nat × bZ))(dd:List (Nat × Nat × Nat))(inl:Nat->List ag->ax->aG)(f:Nat)(ys:List ag)(S:ax):aG:=
 match R1 f dd with
 |some (a,j)=>match zmc S ys a j with
  |true=>inl f ys S|false=>.fF (.nth 0 (.cs (.int .i64 0))) (.db .cp ⟨bn.put .emp 0 (.tp []),S.h,S.n,S.k,S.g⟩)
 |none=>match R1 f uM with
  |some c=>(inl f ys S).fe (Lc (zmb c)) none|none=>inl f ys S
section
variable {P:Program} {G:aV} {M:List bs} {inl:Nat->List ag->ax->aG}
theorem zfF{uM:List (Nat × bZ)}{dd:List (Nat × Nat × Nat)}(cO:gK P G M inl):gK P G M (ND uM dd inl):=λf ys S e af au hf ao=>by
 unfold ND at ao⊢
 split at ao
 ·split at ao
  ·exact cO f ys S e af au hf ao
  ·have aP:=ao.1
   simp only[hj.ok]at aP;exact absurd aP.2 (Int.not_lt.2 aP.1)
 ·split at ao
  ·exact zaW _ cO f ys S e af au hf ao
  ·exact cO f ys S e af au hf ao
end
end Go.aH
