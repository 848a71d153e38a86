/- TE, part S: the own rows that a call's results hold are frozen, where its ends differ. Conditions: none. -/
import Derived.Test.YtddeffoppnlafaaGreatKTEk
namespace Go.aK
open Go
section
variable {P:Program} {G:aR} {f:FuncId} {args:List aC} {σ:Heap} {n:Nat} {R pj:aC→Heap→Prop}
theorem eJ.le(h:eJ P G f args σ n R)(ib: ∀r cc,R r cc→∃eG gl,(∀m b,bV ⟨[r],cc,m,b⟩ ⟨[eG],gl,m,b⟩)∧pj eG gl):eJ P G f args σ n pj:=by
 intro w β ro dJ ab ae aw aM bn
 refine Calls.mono (h w β ro dJ ab ae aw aM bn) fun e w' ⟨v,r,cc,cK,ro',bL,he,ah,dE,gf,cI⟩=>?_
 obtain⟨eG,gl,hle,aG⟩:=ib r cc ah
 have ai:o4 w' ro' G:=aM.keep (fun b ag=>cI.frame b (aw.lt b ag) fun au=>aw.e8 b ag au) cI.gA
 have JJ:dn ⟨w,ro,σ,β,n,[]⟩ G ⟨[r],cc,bL,n⟩ {tmps:=#[v],defers:=[]} w' cK ro':=⟨rfl,rfl,fun i x hi=>by
  cases i with
  |zero=>cases hi;exact dE
  |succ i=>simp at hi,gf,ai,cI,Nat.le_refl _⟩
 obtain⟨sO,uy,cl⟩:=hle bL n ⟨w,ro,σ,β,n,[]⟩ G _ w' ⟨cK,ro',JJ⟩
 exact⟨v,eG,gl,sO,uy,bL,he,aG,by simpa using cl.slot 0 eG rfl,cl.heap,cl.trans⟩
end
theorem zib(S:ay)(m id:Nat):q2 {S with n:=m} id={q2 S id with n:=m}:=by
 unfold q2
 cases ai:dK S.h id with
 |none=>simp only[ai]
 |some o=>
  simp only[ai]
  split
  ·rename_i c r k heq
   cases heq
   split<;>rename_i ah<;>simp only[ah,Hh]
  ·rename_i bW
   rfl
theorem Xb(m:Nat): ∀(ys:List af) (S:ay),jV ys {S with n:=m}={jV ys S with n:=m}
 |[],_=>rfl
 |a::r,S=>by
  have aY:=Xb m r
  cases a with
  |aq id=>
   show jV r (q2 {S with n:=m} id)={jV r (q2 S id)with n:=m}
   rw[zib];exact aY _
  |_=>exact aY S
def tP:af→List af
 | .tp l=>zH l
 |y=>zH [y]
def Xc(l:List af):List ay→Bool
 |[]=>false
 |S::r=>!(nW (tP (S.at 0)) l)||Xc l r
def Xd:List ay→Bool
 |[]=>false
 |S::r=>Xc (tP (S.at 0)) r
def PS(C:ay):aH:=.dc .b8 (jV (tP (C.at 0)) C)
def PT(inl:Nat→List af→ay→aH)(f:Nat)(ys:List af)(S:ay):aH:=
 match inl f ys S with
 |t=>match Xd t.gG with
  |true=>t.eW PS none
  |false=>t
def Sl(inl:Nat→List af→ay→aH)(f:Nat)(ys:List af)(S:ay):aH:=(inl f ys S).eW PS none
section
variable {P:Program} {G:aR} {M:List bo} {inl:Nat→List af→ay→aH}
theorem Xe(S:ay)(e:Env)(B:Nat):S.den G 1 B e=⟨[(S.at 0).den G e],c6 G e S.h,S.n,B⟩:=by
 unfold ay.den ay.at
 simp only[ke]
 cases S.l.get 0<;>rfl
theorem Sm(cS:gV P G M inl):gV P G M (Sl inl):=fun f ys S e ag av hf ao=>by
 obtain⟨g1,g2,g3⟩:=jT (inl f ys S) none ao
 refine(cS f ys S e ag av hf g1).le fun r cc ⟨C,aF,aB,bU,b7,c2,dT,fo,fh⟩=>?_
 obtain⟨_,_,f3,_⟩:=zQ (G:=G) (N:=1) (B:=0) (e:=aF) (tP (C.at 0)) c2 dT
 obtain⟨f1,f2,_,_⟩:=zQ (G:=G) (N:=1) (B:=0) (e:=aF) (tP (C.at 0)) c2 dT
 refine⟨((jV (tP (C.at 0)) C).at 0).den G aF,c6 G aF (jV (tP (C.at 0)) C).h,fun m b=>?_,jV (tP (C.at 0)) C,aF,?_,rfl,rfl,f1,f2,fo,by rw[f3];exact fh⟩
 ·have gJ:({C with n:=m}:ay).cO:=⟨c2.l,c2.h,c2.g⟩
  have an:=(zQ (G:=G) (N:=1) (B:=b) (e:=aF) (tP (C.at 0)) gJ (show({C with n:=m}:ay).cP aF from dT)).2.2.2
  rw[Xb,Xe,Xe]at an;rw[bU,b7];exact an
 ·show run M ((inl f ys S).eW PS none) e=_
  rw[g2,aB];rfl
theorem zic(cS:gV P G M inl):gV P G M (PT inl):=fun f ys S e ag av hf ao=>by
 unfold PT at ao⊢
 cases hm:Xd (inl f ys S).gG with
 |true=>
  simp only[hm]at ao⊢;exact Sm cS f ys S e ag av hf ao
 |false=>
  simp only[hm]at ao⊢;exact cS f ys S e ag av hf ao
end
@[reducible] def zbt(inl:Nat→List af→ay→aH):Nat→List af→ay→aH:=inl
def Lo(P:Program)(H:rI)(T:List (Nat × bX))(Z:Nat × Nat × Nat)(W:(Nat→List af→ay→aH)→Nat→List af→ay→aH)(B:List lq)(C:List jM):Nat→Nat→List af→ay→aH
 |0=>fun _ _ _=>.bad 40
 |n+1=>PT (Oo P H T (W (PA Z.1 Z.2.1 Z.2.2 (Pv B (O7 C (Lo P H T Z W B C n))))))
section
variable {P:Program} {G:aR} {M:List bo}
theorem Sk{Z:Nat × Nat × Nat}{W:(Nat→List af→ay→aH)→Nat→List af→ay→aH}{B:List lq}{C:List jM}{H:rI}{T:List (Nat × bX)}(xk:Oq P G M H)(ln: ∀{inl},gV P G M inl→gV P G M (W inl))(wb:x7 P G Z.1 Z.2.1 Z.2.2)(ig:Lp P G M B)(ld:uM P G M C): ∀n,gV P G M (Lo P H T Z W B C n)
 |0=>fun _ _ _ _ _ _ _ h=>h.elim
 |n+1=>zic (zf5 xk (ln (zhF wb (zhx ig (zg4 ld (Sk xk ln wb ig ld n))))))
end
end Go.aK
