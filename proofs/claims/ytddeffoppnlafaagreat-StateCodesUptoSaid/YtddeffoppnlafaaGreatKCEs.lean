/- CE, part S: names of own blocks are exchanged; states in one form. Conditions: none. -/
import Derived.Test.YtddeffoppnlafaaGreatKCEd
namespace Go.aK
open Go
def hb(p q k:Nat):Nat:=
 match Nat.beq k p with
 |true=>q
 |false=>match Nat.beq k q with
  |true=>p
  |false=>k
theorem mX(p q k:Nat):hb p q (hb p q k)=k:=by
 unfold hb
 cases ab:Nat.beq k p with
 |true=>
  have ab:=eI ab
  subst ab;simp only
  cases ae:Nat.beq q k with
  |true=>exact eI ae
  |false=>simp
 |false=>
  simp only
  cases ae:Nat.beq k q with
  |true=>
   have ae:=eI ae
   subst ae;simp
  |false=>simp[ab,ae]
theorem yh{p q k N:Nat}(ar:p<N)(aG:q<N)(an:k<N):hb p q k<N:=by
 unfold hb
 split
 ·exact aG
 ·split
  ·exact ar
  ·exact an
theorem Z0{p q k N:Nat}(ar:p<N)(aG:q<N)(an:hb p q k<N):k<N:=by
 have:=yh ar aG an
 rwa[mX]at this
theorem Z1{p q k N:Nat}(ar:N≤p)(aG:N≤q)(an:k<N):hb p q k=k:=by
 unfold hb
 split
 ·rename_i h
  have:=eI h
  omega
 ·split
  ·rename_i h
   have:=eI h
   omega
  ·rfl
mutual
def yi(p q:Nat):aC→aC
 | .agg cs=>.agg (pb p q cs)
 | .tuple cs=>.tuple (pb p q cs)
 | .ptr k o=>.ptr (hb p q k) o
 | .dg k i o=>.dg (hb p q k) i o
 | .aq k=>.aq (hb p q k)
 | .fn f a b=>.fn f (pb p q a) (pb p q b)
 | .ref k=>.ref (hb p q k)
 | .dN k n=>.dN (hb p q k) n
 |x=>x
def pb(p q:Nat):List aC→List aC
 |[]=>[]
 |x::r=>yi p q x::pb p q r
end
theorem E8(p q:Nat): ∀l:List aC,pb p q l=l.map (yi p q)
 |[]=>rfl
 |x::r=>by simp[pb,E8 p q r]
theorem yj(p q:Nat)(l:List aC):(pb p q l).length=l.length:=by simp[E8]
theorem yk(p q:Nat){l:List aC}{j:Nat}{x:aC}(h:(pb p q l)[j]? =some x): ∃y,l[j]? =some y∧x=yi p q y:=by
 rw[E8,List.getElem?_map]at h
 obtain⟨y,ab,ae⟩:=Option.map_eq_some_iff.1 h
 exact⟨y,ab,ae.symm⟩
def rC(p q:Nat):ec→ec
 | .box t cs=>.box t (pb p q cs)
 |o=>o
def uF(p q:Nat):Heap→Heap
 |[]=>[]
 |(k,o)::r=>(hb p q k,rC p q o)::uF p q r
theorem wk(p q:Nat): ∀(σ:Heap) (k:Nat),aE (uF p q σ) k=(aE σ (hb p q k)).map (rC p q)
 |[],_=>rfl
 |(j,o)::r,k=>by
  simp only[uF,aE]
  by_cases h:hb p q j=k
  ·have ae:j=hb p q k:=by rw[←h,mX]
   rw[if_pos h,if_pos ae];rfl
  ·have ae: ¬j=hb p q k:=fun e=>h (by rw[e,mX])
   rw[if_neg h,if_neg ae];exact wk p q r k
section
variable {w:World} {ro:Nat→Prop} {σ:Heap} {β:Nat→Value} {N p q:Nat}
theorem bA.hb(ar:p<N)(aG:q<N){x:aC}{c:Value}(h:bA w ro σ β N x c):bA w ro (uF p q σ) (fun k=>β (hb p q k)) N (yi p q x) c:=by
 induction h with
 |ad x c h=>exact .ad x c h
 |agg cs c ab _ aY=>
  refine .agg _ c (by rw[yj];exact ab) fun j x aj=>?_
  obtain⟨y,aA,rfl⟩:=yk p q aj;exact aY j y aA
 |tuple cs c ab _ aY=>
  refine .tuple _ c (by rw[yj];exact ab) fun j x aj=>?_
  obtain⟨y,aA,rfl⟩:=yk p q aj;exact aY j y aA
 |ptr id off c av h=>
  refine .ptr _ off c (yh ar aG av) fun t cs ai=>?_
  rw[wk,mX]at ai;obtain⟨o,ab,ae⟩:=Option.map_eq_some_iff.1 ai
  cases o with
  |box bh cs'=>
   simp only[mX];exact h bh cs' ab
  |_=>simp[rC]at ae
 |dN id off c av h=>
  refine .dN _ off c (yh ar aG av) fun t cs ai=>?_
  rw[wk,mX]at ai;obtain⟨o,ab,ae⟩:=Option.map_eq_some_iff.1 ai
  cases o with
  |box bh cs'=>
   simp only[mX];exact h bh cs' ab
  |_=>simp[rC]at ae
 |dg id i off c av h=>
  refine .dg _ i off c (yh ar aG av) fun z t n es ai=>?_
  rw[wk,mX]at ai;obtain⟨o,ab,ae⟩:=Option.map_eq_some_iff.1 ai
  cases o with
  |row hs bh bL eD=>
   simp only[rC,ec.row.injEq]at ae;obtain⟨rfl,rfl,rfl,rfl⟩:=ae;simp only[mX];exact h _ _ _ _ ab
  |_=>simp[rC]at ae
 |aq id c av h=>
  refine .aq _ c (yh ar aG av) fun z t n es ai=>?_
  rw[wk,mX]at ai;obtain⟨o,ab,ae⟩:=Option.map_eq_some_iff.1 ai
  cases o with
  |row hs bh bL eD=>
   simp only[mX];exact h _ _ _ _ ab
  |_=>simp[rC]at ae
 |fn f a b c d ab ae _ _ hv hy=>
  refine .fn f _ _ c d (by rw[yj];exact ab) (by rw[yj];exact ae) (fun j x aj=>?_) fun j x aj=>?_
  ·obtain⟨y,aA,rfl⟩:=yk p q aj
   exact hv j y aA
  ·obtain⟨y,aA,rfl⟩:=yk p q aj
   exact hy j y aA
 |ref id c av h=>
  refine .ref _ c (yh ar aG av) fun bH ai=>?_
  rw[wk,mX]at ai;obtain⟨o,ab,ae⟩:=Option.map_eq_some_iff.1 ai
  cases o with
  |bI km=>
   simp only[mX];exact h _ ab
  |_=>simp[rC]at ae
 |top c=>exact .top c
theorem JU(o:ec):(rC p q o).live=o.live:=by cases o<;>rfl
end
theorem bV.hb{s:aQ}{p q:Nat}(ar:p<s.next)(aG:q<s.next)(zjV:s.base≤p)(zjW:s.base≤q):bV s ⟨pb p q s.db,uF p q s.heap,s.next,s.base⟩:=by
 intro E G a w ⟨β,ro,h⟩
 have back: ∀{k:Nat} {o:ec},aE (uF p q s.heap) k=some o→∃cb,aE s.heap (aK.hb p q k)=some cb∧o=rC p q cb:=fun {k o} ai=>by
  rw[wk]at ai;obtain⟨cb,ab,ae⟩:=Option.map_eq_some_iff.1 ai;exact⟨cb,ab,ae.symm⟩
 refine⟨fun k=>β (aK.hb p q k),ro,h.defers,by rw[yj];exact h.size,fun i x hx=>?_,⟨fun k o ai=>?_,fun k a8 o cb b ai dQ av j2 ag gJ=>?_,fun b ag=>?_,h.heap.lt⟩,h.hL,?_,h.base⟩
 ·obtain⟨y,aA,rfl⟩:=yk p q hx
  exact(h.slot i y aA).hb ar aG
 ·obtain⟨cb,ab,rfl⟩:=back ai
  cases h.heap.dq _ _ ab with
  |box t cs b arr aD bg cM dU=>
   refine .box t _ b arr aD bg (by rw[yj];exact cM) fun j x aj=>?_
   obtain⟨y,aA,rfl⟩:=yk p q aj;exact(dU j y aA).hb ar aG
  |row t n es xs aD bg cM=>exact .row t n es xs aD bg cM
  |fW t n es aD=>exact .fW t n es aD
  |bI bH b o aD bg cM=>exact .bI bH b o aD bg cM
 ·obtain⟨oj,ab,rfl⟩:=back ai
  obtain⟨E9,ae,rfl⟩:=back dQ;rw[JU]at av j2
  have:=h.heap.inj _ _ _ _ b ab ae av j2 ag gJ
  have:=congrArg (aK.hb p q) this
  rwa[mX,mX]at this
 ·rintro⟨k,o,ai,av,bc⟩
  obtain⟨oj,ab,rfl⟩:=back ai;rw[JU]at av;exact h.heap.e8 b ag ⟨_,oj,ab,av,bc⟩
 ·have t:=h.trans
  have zjX:=h.base
  refine⟨t.os,t.tape,t.output,t.size,t.frame,t.hz,t.gA,?_,fun id bf o ai=>?_,fun id o ai=>?_,t.le⟩
  ·rintro b ⟨k,o,ai,av,bc⟩
   obtain⟨oj,ab,rfl⟩:=back ai;rw[JU]at av;exact t.fU b ⟨_,oj,ab,av,bc⟩
  ·obtain⟨oj,ab,rfl⟩:=back ai
   have ao:aK.hb p q id=id:=Z1 (N:=E.n) (by omega) (by omega) bf
   rw[ao]at ab;simp only[ao];exact t.ea id bf oj ab
  ·obtain⟨oj,ab,rfl⟩:=back ai
   exact Z0 ar aG (t.new _ _ ab)
def il.hb(p q:Nat):il→il
 | .box t cs=>.box t (pb p q cs)
 |o=>o
def Fa(p q:Nat):et→et
 |[]=>[]
 |(k,o)::r=>(aK.hb p q k,o.hb p q)::Fa p q r
theorem RS(p q:Nat): ∀h:et,cX (Fa p q h)=uF p q (cX h)
 |[]=>rfl
 |(k,o)::r=>by
  simp only[Fa,cX,uF,RS p q r]
  cases o<;>rfl
def JV(p q:Nat)(S:bD):bD:=
 match(Nat.blt p S.n&&Nat.blt q S.n)&&(Nat.ble S.b p&&Nat.ble S.b q)with
 |true=>S.up (S.l.map (yi p q)) (Fa p q S.h) S.n
 |false=>S
theorem Z2(p q:Nat)(S:bD):bV S.den (JV p q S).den:=by
 unfold JV
 split
 ·rename_i hc
  simp only[Bool.and_eq_true]at hc
  have:=bV.hb (s:=S.den) (p:=p) (q:=q) (e9 hc.1.1) (e9 hc.1.2) (Nat.le_of_ble_eq_true hc.2.1) (Nat.le_of_ble_eq_true hc.2.2)
  rw[kq,IF (yi p q) rfl,RS,←E8];exact this
 ·exact bV.refl _
def yl(h:et):List Nat→et
 |[]=>[]
 |k::r=>match nt h k with
  |some o=>(k,o)::yl h r
  |none=>yl h r
theorem JW(h:et): ∀(l:List Nat) (id:Nat) (o:ec),aE (cX (yl h l)) id=some o→aE (cX h) id=some o
 |k::r,id,o,ai=>by
  simp only[yl]at ai
  split at ai
  ·rename_i x hx
   simp only[cX,aE]at ai
   split at ai
   ·rename_i an
    subst an;rw[sC,hx];exact ai
   ·exact JW h r id o ai
  ·exact JW h r id o ai
theorem Z3(S:bD)(l:List Nat):bV S.den (S.up S.l (yl S.h l) S.n).den:=by
 intro E G a w ⟨β,ro,h⟩
 rw[kq]
 have ao:=JW S.h l
 exact⟨β,ro,h.defers,h.size,fun i x hx=>(h.slot i x hx).sub ao,h.heap.sub ao,h.hL,h.trans.sub ao,h.base⟩
mutual
def Jv:aC→List Nat
 | .agg cs=>ym cs
 | .tuple cs=>ym cs
 | .ptr id _=>[id]
 | .dg id _ _=>[id]
 | .aq id=>[id]
 | .fn _ p q=>ym p++ym q
 | .ref id=>[id]
 | .dN id _=>[id]
 |_=>[]
def ym:List aC→List Nat
 |[]=>[]
 |x::r=>Jv x++ym r
end
def il.refs:il→List Nat
 | .box _ cs=>ym cs
 |_=>[]
def x2(x:Nat):List Nat→Bool
 |[]=>false
 |y::r=>match Nat.beq x y with
  |true=>true
  |false=>x2 x r
def reach(h:et)(n:Nat):Nat→List Nat→List Nat→List Nat
 |0,_,acc=>acc
 |_+1,[],acc=>acc
 |k+1,x::r,acc=>match Nat.blt x n||x2 x acc with
  |true=>reach h n k r acc
  |false=>match nt h x with
   |some o=>reach h n k (o.refs++r) (x::acc)
   |none=>reach h n k r acc
def EH(n:Nat):et→List Nat
 |[]=>[]
 |(k,o)::r=>match Nat.blt k n with
  |true=>o.refs++EH n r
  |false=>EH n r
def JX(S:bD):List Oper→List Nat
 |[]=>[]
 |o::r=>match o.dst with
  |some d=>Jv (S.at d)++JX S r
  |none=>JX S r
def Fb:Nat→List Nat→Nat→bD→bD
 |0,_,_,S=>S
 |_+1,[],_,S=>S
 |m+1,x::r,k,S=>Fb m (r.map (hb x k)) (k+1) (match Nat.beq x k with
  |true=>S
  |false=>JV x k S)
theorem JY: ∀(m:Nat) (l:List Nat) (k:Nat) (S:bD),bV S.den (Fb m l k S).den
 |0,_,_,_=>bV.refl _
 |_+1,[],_,_=>bV.refl _
 |m+1,x::r,k,S=>by
  simp only[Fb]
  split
  ·exact JY m _ _ _
  ·exact(Z2 x k S).trans (JY m _ _ _)
def JZ(n:Nat):et→List Nat
 |[]=>[]
 |(k,_)::r=>match Nat.blt k n with
  |true=>k::JZ n r
  |false=>JZ n r
def RT(n:Nat):Nat→List Nat
 |0=>[]
 |k+1=>(n+k)::RT n k
def canon(n:Nat)(ops:List Oper)(S:bD):bD:=
 match Nat.beq n S.n with
 |true=>S
 |false=>match(reach S.h n 100000 (JX S ops++EH n S.h) []).reverse with
  |ids=>match Fb ids.length ids n S with
   |aO=>aO.up aO.l (yl aO.h (RT n ids.length++JZ n aO.h)) aO.n
theorem JT(n:Nat)(ops:List Oper)(S:bD):bV S.den (canon n ops S).den:=by
 unfold canon
 split
 ·exact bV.refl _
 ·exact(JY _ _ _ _).trans (Z3 _ _)
end Go.aK
