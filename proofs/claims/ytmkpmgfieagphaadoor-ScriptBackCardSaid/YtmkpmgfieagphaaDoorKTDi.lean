/- TD, part C: laws of trees. Conditions: none. -/
import Derived.Test.YtmkpmgfieagphaaDoorKTDb
namespace Go.aG
open Go
def hV{R A X:Type}(f:R→X):Step R A→Step X A
 | .ret r=>.ret (f r)
 | .b9 a=>.b9 a
 | .bP a=>.bP a
theorem tL{R A X:Type}(f:R→X){b:Nat→A→Step R A}{c:Nat→A→Step X A}(h: ∀i a,c i a=hV f (b i a)): ∀(m k:Nat) (a:A),bS c k m a=Sum.map f id (bS b k m a)
 |0,_,_=>rfl
 |m+1,k,a=>by
  simp only[bS,h]
  cases b k a with
  |ret r=>rfl
  |b9 a=>rfl
  |bP a=>exact tL f h m (k+1) a
theorem tM{R A X:Type}(f:R→X){b:A→Step R A}{c:A→Step X A}(h: ∀a,c a=hV f (b a)): ∀(m:Nat) (a:A),b3 c m a=Sum.map f id (b3 b m a)
 |0,_=>rfl
 |m+1,a=>by
  simp only[b3,h]
  cases b a with
  |ret r=>rfl
  |b9 a=>rfl
  |bP a=>exact tM f h m a
theorem Eo{R A X:Type}(f:R→X){b:A→Step R A}{c:A→Step X A}(h: ∀a,c a=hV f (b a)): ∀(m:Nat) (a:A),je c m a↔je b m a
 |0,_=>Iff.rfl
 |m+1,a=>by
  simp only[je,h]
  cases b a with
  |ret r=>exact Iff.rfl
  |b9 a=>exact Iff.rfl
  |bP a=>exact Eo f h m a
theorem tN{X Y:Type}(g:X→Y)(m xid:Nat)(ca:List gE)(K:bH→aq→Env→X)(x:bH)(S:aq)(e:Env):hV g (dE m xid ca K x S e)=dE m xid ca (fun x S e=>g (K x S e)) x S e:=by
 unfold dE
 split
 ·rfl
 ·split<;>rfl
section
variable {X:Type} {m xid:Nat} {ca:List gE} {K:bH→aq→Env→X} {x:bH} {S:aq} {e:Env}
theorem mq(h:x.bu m=true):dE m xid ca K x S e= .bP (bQ _ (eX S e ca)):=by unfold dE;rw[h]
theorem mr(h:x.bu m=false)(h':x.cp xid=true):dE m xid ca K x S e= .b9 (bQ _ (eX S e ca)):=by unfold dE;rw[h,h']
theorem jj(h:x.bu m=false)(h':x.cp xid=false):dE m xid ca K x S e= .ret (K x S e):=by unfold dE;rw[h,h']
end
section
variable {M:List bc}
theorem fold_map: ∀(t:ay) {X Y:Type} (g:X→Y) (e:Env) (K:bH→aq→Env→X) (d:X),g (t.fold M e K d)=t.fold M e (fun x S aw=>g (K x S aw)) (g d)
  | .cc _ _,_,_,_,_,_,_=>rfl
  | .lt _ _ t,_,_,g,_,K,d=>fold_map t g _ K d
  | .eW _ t,_,_,g,_,K,d=>fold_map t g _ K d
  | .it c a b,_,_,g,e,K,d=>by
    simp only[ay.fold]
    cases c.aD e .bool with
    |true=>exact fold_map a g e K d
    |false=>exact fold_map b g e K d
  | .c3 n a ps k,_,_,g,e,K,d=>by
    simp only[ay.fold]
    cases a.ie n with
    |true=>exact fold_map k g _ K d
    |false=>cases a.fold M e (fun x _ _=>x.bu n) false with
      |true=>exact fold_map k g _ K d
      |false=>exact fold_map a g e K d
  | .dJ m xid cQ bI ca a k,X,Y,g,e,K,d=>by
    simp only[ay.fold]
    rw[tL g (c:=fun i (v:bB ca)=>bif a.ie m
        then(.bP (a.fold M (a7 (aZ.put e bI ⟨.int .i64,(i:Int)⟩) ca v) (fun _ S aw=>bQ _ (eX S aw ca)) v):Step Y (bB ca))
        else a.fold M (a7 (aZ.put e bI ⟨.int .i64,(i:Int)⟩) ca v) (dE m xid ca fun x S e=>g (K x S e)) (.b9 v))
      (b:=fun i (v:bB ca)=>bif a.ie m
        then(.bP (a.fold M (a7 (aZ.put e bI ⟨.int .i64,(i:Int)⟩) ca v) (fun _ S aw=>bQ _ (eX S aw ca)) v):Step X (bB ca))
        else a.fold M (a7 (aZ.put e bI ⟨.int .i64,(i:Int)⟩) ca v) (dE m xid ca K) (.b9 v))
      (fun i v=>by
        cases a.ie m with
        |true=>rfl
        |false=>
          simp only[cond_false];rw[fold_map a (hV g)];simp only[tN]
          rfl)]
    generalize bS _ _ _ _=L
    cases L with
    |inl r=>rfl
    |inr v=>exact fold_map k g _ K d
  | .eh m xid ca a k,X,Y,g,e,K,d=>by
    simp only[ay.fold]
    rw[tM g (c:=fun(v:bB ca)=>a.fold M (a7 e ca v) (dE m xid ca fun x S e=>g (K x S e)) (.b9 v))
      (b:=fun(v:bB ca)=>a.fold M (a7 e ca v) (dE m xid ca K) (.b9 v))
      (fun v=>by
        rw[fold_map a (hV g)];simp only[tN]
        rfl)]
    generalize b3 _ _ _=L
    cases L with
    |inl r=>rfl
    |inr v=>exact fold_map k g _ K d
  | .bad _,_,_,_,_,_,_=>rfl
abbrev lO:=bH × aq × Env
def run(M:List bc)(t:ay)(e:Env):Option lO:=t.fold M e (fun x S aw=>some (x,S,aw)) none
theorem jk{t:ay}{e aw:Env}{x:bH}{S:aq}(h:run M t e=some (x,S,aw)){X:Type}(K:bH→aq→Env→X)(d:X):t.fold M e K d=K x S aw:=by
 have:=fold_map (M:=M) t (fun(o:Option lO)=>match o with|some (x,S,aw)=>K x S aw|none=>d) e (fun x S aw=>some (x,S,aw)) none
 simp only at this
 rw[←this]
 unfold run at h
 rw[h]
theorem wL{t:ay}{e:Env}(h:run M t e=none){X:Type}(K:bH→aq→Env→X)(d:X):t.fold M e K d=d:=by
 have:=fold_map (M:=M) t (fun(o:Option lO)=>match o with|some (x,S,aw)=>K x S aw|none=>d) e (fun x S aw=>some (x,S,aw)) none
 simp only at this
 rw[←this]
 unfold run at h
 rw[h]
def cx(M:List bc)(m xid:Nat)(ca:List gE)(a:ay)(e:Env)(v:bB ca):Step (Option lO) (bB ca):=
 match run M a e with
 |some (x,S,aw)=>dE m xid ca (fun x S e=>some (x,S,e)) x S aw
 |none=>.b9 v
theorem tO(m xid:Nat)(ca:List gE)(a:ay)(e:Env)(v:bB ca):a.fold M e (dE m xid ca fun x S e=>some (x,S,e)) (.b9 v)=cx M m xid ca a e v:=by
 unfold cx
 split
 ·rename_i x S aw h
  exact jk h _ _
 ·rename_i h
  exact wL h _ _
theorem KN{m xid bI:Nat}{cQ:bG}{ca:List gE}{a k:ay}{e:Env}{X:Type}(K:bH→aq→Env→X)(d:X)(h:a.ie m=true→∀e,∃x S aw,run M a e=some (x,S,aw)∧x.bu m=true):
 (ay.dJ m xid cQ bI ca a k).fold M e K d=Sum.elim (fun r=>r) (fun v=>k.fold M (a7 e ca v) K d) (bS (fun i (v:bB ca)=>a.fold M (a7 (aZ.put e bI ⟨.int .i64,(i:Int)⟩) ca v) (dE m xid ca K) (.b9 v)) 0 (b1 (cQ.den M e)).toNat (bQ _ (c9 e ca))):=by
 simp only[ay.fold]
 cases ai:a.ie m with
 |false=>rfl
 |true=>
  have:(fun(i:Nat) (v:bB ca)=>(.bP (a.fold M (a7 (aZ.put e bI ⟨.int .i64,(i:Int)⟩) ca v) (fun _ S aw=>bQ _ (eX S aw ca)) v):Step X (bB ca)))=fun(i:Nat) (v:bB ca)=>a.fold M (a7 (aZ.put e bI ⟨.int .i64,(i:Int)⟩) ca v) (dE m xid ca K) (.b9 v):=by
   funext i v
   obtain⟨x,S,aw,aa,af⟩:=h ai (a7 (aZ.put e bI ⟨.int .i64,(i:Int)⟩) ca v);simp only[jk aa,dE,af]
  simp only[cond_true];rw[this]
theorem iI: ∀{t:ay} {f:bH→Bool} {e:Env},t.eR f=true→∃x S aw,run M t e=some (x,S,aw)∧f x=true
 | .cc x S,_,e,h=>⟨x,S,e,rfl,h⟩
 | .lt _ _ t,_,_,h=>iI (t:=t) h
 | .eW _ t,_,_,h=>iI (t:=t) h
 | .it c a b,f,e,h=>by
  simp only[ay.eR,Bool.and_eq_true]at h;simp only[run,ay.fold]
  cases c.aD e .bool with
  |true=>exact iI (t:=a) h.1
  |false=>exact iI (t:=b) h.2
 | .c3 n a ps k,f,e,h=>by
  simp only[ay.eR,Bool.and_eq_true]at h;obtain⟨x,S,aw,aa,af⟩:=iI (t:=a) (e:=e) h.1;simp only[run,ay.fold]
  cases a.ie n with
  |true=>exact iI (t:=k) h.2
  |false=>
   rw[jk aa]
   cases hx:x.bu n with
   |true=>exact iI (t:=k) h.2
   |false=>
    rw[hx,Bool.false_or]at af;exact⟨x,S,aw,aa,af⟩
 | .dJ m xid cQ bI ca a k,f,e,h=>by
  simp only[ay.eR,Bool.and_eq_true]at h
  have key: ∀(n i:Nat) (v:bB ca),(∃bo,bS (fun i (v:bB ca)=>a.fold M (a7 (aZ.put e bI ⟨.int .i64,(i:Int)⟩) ca v) (dE m xid ca fun x S e=>some (x,S,e)) (.b9 v)) i n v= .inr bo)∨
   ∃x S aw,bS (fun i (v:bB ca)=>a.fold M (a7 (aZ.put e bI ⟨.int .i64,(i:Int)⟩) ca v) (dE m xid ca fun x S e=>some (x,S,e)) (.b9 v)) i n v= .inl (some (x,S,aw))∧f x=true:=by
   intro n
   induction n with
   |zero=>exact fun i v=>.inl ⟨v,rfl⟩
   |succ n aO=>
    intro i v;obtain⟨x,S,aw,aa,af⟩:=iI (t:=a) (e:=a7 (aZ.put e bI ⟨.int .i64,(i:Int)⟩) ca v) h.1;simp only[bS,jk aa]
    cases hx:x.bu m with
    |true=>
     rw[mq hx];exact aO (i+1) _
    |false=>
     cases ax:x.cp xid with
     |true=>
      rw[mr hx ax];exact .inl ⟨_,rfl⟩
     |false=>
      rw[jj hx ax];rw[hx,ax,Bool.false_or,Bool.false_or]at af;exact .inr ⟨x,S,aw,rfl,af⟩
  unfold run;rw[KN _ _ fun ai e=>iI (t:=a) (e:=e) ai]
  rcases key (b1 (cQ.den M e)).toNat 0 (bQ _ (c9 e ca))with⟨bo,av⟩|⟨x,S,aw,av,hf⟩
  ·rw[av];exact iI (t:=k) h.2
  ·rw[av];exact⟨x,S,aw,rfl,hf⟩
 | .eh m xid ca a k,f,e,h=>by
  simp only[ay.eR,Bool.and_eq_true]at h
  have key: ∀(n:Nat) (v:bB ca),(∃bo,b3 (fun(v:bB ca)=>(a.fold M (a7 e ca v) (dE m xid ca fun x S e=>some (x,S,e)) (.b9 v):Step (Option lO) (bB ca))) n v= .inr bo)∨
   ∃x S aw,b3 (fun(v:bB ca)=>(a.fold M (a7 e ca v) (dE m xid ca fun x S e=>some (x,S,e)) (.b9 v):Step (Option lO) (bB ca))) n v= .inl (some (x,S,aw))∧f x=true:=by
   intro n
   induction n with
   |zero=>exact fun v=>.inl ⟨v,rfl⟩
   |succ n aO=>
    intro v;simp only[b3];obtain⟨x,S,aw,aa,af⟩:=iI (t:=a) (e:=a7 e ca v) h.1;rw[jk aa]
    cases hx:x.bu m with
    |true=>
     rw[mq hx];exact aO _
    |false=>
     cases ax:x.cp xid with
     |true=>
      rw[mr hx ax];exact .inl ⟨_,rfl⟩
     |false=>
      rw[jj hx ax];rw[hx,ax,Bool.false_or,Bool.false_or]at af;exact .inr ⟨x,S,aw,rfl,af⟩
  simp only[run,ay.fold]
  rcases key cX (bQ _ (c9 e ca))with⟨bo,av⟩|⟨x,S,aw,av,hf⟩
  ·rw[av];exact iI (t:=k) h.2
  ·rw[av];exact⟨x,S,aw,rfl,hf⟩
 | .bad _,_,_,h=>by cases h
theorem oq{n:Nat}{a k:ay}{ps:List (Nat × aU × dN)}{e aC:Env}{x:bH}{aN:aq}(h:run M a e=some (x,aN,aC))(hx:x.bu n=true){X:Type}(K:bH→aq→Env→X)(d:X):
 (ay.c3 n a ps k).fold M e K d=k.fold M (fg e (fun r p=>⟨r,(p.cH aN).get aC r⟩) ps) K d:=by
 simp only[ay.fold]
 cases a.ie n with
 |true=>simp only[jk h,cond_true]
 |false=>simp only[jk h,hx,cond_true,cond_false]
theorem lP{n:Nat}{a k:ay}{ps:List (Nat × aU × dN)}{e aC:Env}{x:bH}{aN:aq}(h:run M a e=some (x,aN,aC))(hx:x.bu n=false){X:Type}(K:bH→aq→Env→X)(d:X):
 (ay.c3 n a ps k).fold M e K d=K x aN aC:=by
 simp only[ay.fold]
 cases ai:a.ie n with
 |true=>
  obtain⟨kc,cZ,aw,aa,af⟩:=iI (M:=M) (t:=a) (e:=e) ai;rw[aa]at h;cases h;rw[hx]at af;cases af
 |false=>simp only[jk h,hx,cond_false]
theorem qz{n:Nat}{a k:ay}{ps:List (Nat × aU × dN)}{e:Env}(h:run M a e=none){X:Type}(K:bH→aq→Env→X)(d:X):
 (ay.c3 n a ps k).fold M e K d=d:=by
 simp only[ay.fold]
 cases ai:a.ie n with
 |true=>
  obtain⟨kc,cZ,aw,aa,af⟩:=iI (M:=M) (t:=a) (e:=e) ai;rw[aa]at h;cases h
 |false=>simp only[wL h,cond_false]
theorem KO{n:Nat}{a k:ay}{ps:List (Nat × aU × dN)}{e aC:Env}{x:bH}{aN:aq}(ah:(ay.c3 n a ps k).safe M e)(h:run M a e=some (x,aN,aC))(hx:x.bu n=true):
 k.safe M (fg e (fun r p=>⟨r,(p.cH aN).get aC r⟩) ps):=by
 have aa:=ah.2 (by rw[jk h];exact hx)
 have af:(fun(r:aU) (p:dN)=>(⟨r,bif a.ie n
  then a.fold M e (fun _ S aw=>(p.cH S).get aw r) r.gb
  else a.fold M e (fun x S aw=>bif x.bu n then(p.cH S).get aw r else r.gb) r.gb⟩:aS))=fun r p=>⟨r,(p.cH aN).get aC r⟩:=by
  funext r p
  simp only[jk h,hx]
  cases a.ie n<;>rfl
 rw[af]at aa
 exact aa
theorem tP{m xid bI:Nat}{cQ:bG}{ca:List gE}{a k:ay}{e:Env}{X:Type}(K:bH→aq→Env→X)(d:X):
 (ay.dJ m xid cQ bI ca a k).fold M e K d=Sum.elim (fun r=>r) (fun v=>k.fold M (a7 e ca v) K d) (bS (fun i (v:bB ca)=>a.fold M (a7 (aZ.put e bI ⟨.int .i64,(i:Int)⟩) ca v) (dE m xid ca K) (.b9 v)) 0 (b1 (cQ.den M e)).toNat (bQ _ (c9 e ca))):=KN K d fun ai _=>iI ai
end
end Go.aG
namespace Go.aG
open Go
def ay.rel:ay→(bH→bH)→ay
 | .cc x S,f=>.cc (f x) S
 | .lt i x t,f=>.lt i x (t.rel f)
 | .eW n t,f=>.eW n (t.rel f)
 | .it c a b,f=>.it c (a.rel f) (b.rel f)
 | .c3 n a ps k,f=>.c3 n (a.rel fun x=>bif x.bu n then x else f x) ps (k.rel f)
 | .dJ m xid cQ bI ca a k,f=>.dJ m xid cQ bI ca (a.rel fun x=>bif x.bu m||x.cp xid then x else f x) (k.rel f)
 | .eh m xid ca a k,f=>.eh m xid ca (a.rel fun x=>bif x.bu m||x.cp xid then x else f x) (k.rel f)
 | .bad n,_=>.bad n
def ay.hC:ay→(bH→bH)→Prop
 | .cc _ _,_=>True
 | .lt _ _ t,f=>t.hC f
 | .eW _ t,f=>t.hC f
 | .it _ a b,f=>a.hC f∧b.hC f
 | .c3 n a _ k,f=>(∀x,x.bu n=false→(f x).bu n=false)∧(a.hC fun x=>bif x.bu n then x else f x)∧k.hC f
 | .dJ m xid _ _ _ a k,f=>(∀x,x.bu m=false→x.cp xid=false→(f x).bu m=false∧(f x).cp xid=false)∧(a.hC fun x=>bif x.bu m||x.cp xid then x else f x)∧k.hC f
 | .eh m xid _ a k,f=>(∀x,x.bu m=false→x.cp xid=false→(f x).bu m=false∧(f x).cp xid=false)∧(a.hC fun x=>bif x.bu m||x.cp xid then x else f x)∧k.hC f
 | .bad _,_=>True
section
variable {M:List bc}
theorem zM{X:Type}{m xid:Nat}{ca:List gE}{K:bH→aq→Env→X}{f:bH→bH}(h: ∀x,x.bu m=false→x.cp xid=false→(f x).bu m=false∧(f x).cp xid=false)(x:bH)(S:aq)(e:Env):
 dE m xid ca K (bif x.bu m||x.cp xid then x else f x) S e=dE m xid ca (fun x S e=>K (f x) S e) x S e:=by
 cases hx:x.bu m with
 |true=>rw[Bool.true_or,cond_true,mq hx,mq hx]
 |false=>
  cases ax:x.cp xid with
  |true=>rw[Bool.false_or,cond_true,mr hx ax,mr hx ax]
  |false=>
   obtain⟨aa,af⟩:=h x hx ax;rw[Bool.false_or,cond_false,jj hx ax,jj aa af]
theorem Ep: ∀{t:ay} {f g:bH→Bool},(∀x,f x=g x)→t.eR f=t.eR g:=fun {t f g} h=>by
 have:f=g:=funext h
 rw[this]
theorem nu: ∀{t:ay} {f:bH→bH} {g:bH→Bool},t.hC f→(t.rel f).eR g=t.eR fun x=>g (f x)
 | .cc _ _,_,_,_=>rfl
 | .lt _ _ t,_,_,h=>nu (t:=t) h
 | .eW _ t,_,_,h=>nu (t:=t) h
 | .it _ a b,f,g,h=>by simp only[ay.rel,ay.eR,nu (t:=a) h.1,nu (t:=b) h.2]
 | .c3 n a ps k,f,g,h=>by
  simp only[ay.rel,ay.eR,nu (t:=a) h.2.1,nu (t:=k) h.2.2]
  congr 1
  refine Ep fun x=>?_
  cases hx:x.bu n with
  |true=>simp[hx]
  |false=>simp[h.1 x hx]
 | .dJ m xid cQ bI ca a k,f,g,h=>by
  simp only[ay.rel,ay.eR,nu (t:=a) h.2.1,nu (t:=k) h.2.2]
  congr 1
  refine Ep fun x=>?_
  cases hx:x.bu m with
  |true=>simp[hx]
  |false=>
   cases ax:x.cp xid with
   |true=>simp[ax]
   |false=>simp[(h.1 x hx ax).1,(h.1 x hx ax).2]
 | .eh m xid ca a k,f,g,h=>by
  simp only[ay.rel,ay.eR,nu (t:=a) h.2.1,nu (t:=k) h.2.2]
  congr 1
  refine Ep fun x=>?_
  cases hx:x.bu m with
  |true=>simp[hx]
  |false=>
   cases ax:x.cp xid with
   |true=>simp[ax]
   |false=>simp[(h.1 x hx ax).1,(h.1 x hx ax).2]
 | .bad _,_,_,_=>rfl
theorem lf: ∀{t:ay} {f:bH→bH},t.hC f→∀{X:Type} (e:Env) (K:bH→aq→Env→X) (d:X),(t.rel f).fold M e K d=t.fold M e (fun x S aw=>K (f x) S aw) d
 | .cc _ _,_,_,_,_,_,_=>rfl
 | .lt _ _ t,_,h,_,_,K,d=>lf (t:=t) h _ K d
 | .eW _ t,_,h,_,_,K,d=>lf (t:=t) h _ K d
 | .it c a b,f,h,_,e,K,d=>by
  simp only[ay.rel,ay.fold,lf (t:=a) h.1,lf (t:=b) h.2]
 | .c3 n a ps k,f,h,_,e,K,d=>by
  have ae:run M (a.rel fun x=>bif x.bu n then x else f x) e=(run M a e).map fun l=>(bif l.1.bu n then l.1 else f l.1,l.2):=by
   unfold run;rw[lf (t:=a) h.2.1];rw[fold_map a (fun o:Option lO=>o.map fun l=>(bif l.1.bu n then l.1 else f l.1,l.2))]
   rfl
  show(ay.c3 n (a.rel fun x=>bif x.bu n then x else f x) ps (k.rel f)).fold M e K d=_
  cases cD:run M a e with
  |none=>rw[qz (by rw[ae,cD];rfl),qz cD]
  |some l=>
   obtain⟨x,aN,aC⟩:=l
   have aa:run M (a.rel fun x=>bif x.bu n then x else f x) e=some (bif x.bu n then x else f x,aN,aC):=by rw[ae,cD];rfl
   cases hx:x.bu n with
   |true=>
    rw[hx,cond_true]at aa;rw[oq aa hx,oq cD hx];exact lf (t:=k) h.2.2 _ K d
   |false=>
    rw[hx,cond_false]at aa;rw[lP aa (h.1 x hx),lP cD hx]
 | .dJ m xid cQ bI ca a k,f,h,X,e,K,d=>by
  show(ay.dJ m xid cQ bI ca (a.rel fun x=>bif x.bu m||x.cp xid then x else f x) (k.rel f)).fold M e K d=_
  rw[tP,tP]
  have:(fun(i:Nat) (v:bB ca)=>(a.rel fun x=>bif x.bu m||x.cp xid then x else f x).fold M (a7 (aZ.put e bI ⟨.int .i64,(i:Int)⟩) ca v) (dE m xid ca K) (.b9 v))=fun(i:Nat) (v:bB ca)=>a.fold M (a7 (aZ.put e bI ⟨.int .i64,(i:Int)⟩) ca v) (dE m xid ca fun x S aw=>K (f x) S aw) (.b9 v):=by
   funext i v
   rw[lf (t:=a) h.2.1];simp only[zM h.1]
  rw[this];generalize bS _ _ _ _=L
  cases L with
  |inl r=>rfl
  |inr v=>exact lf (t:=k) h.2.2 _ K d
 | .eh m xid ca a k,f,h,X,e,K,d=>by
  simp only[ay.rel,ay.fold]
  have:(fun(v:bB ca)=>(a.rel fun x=>bif x.bu m||x.cp xid then x else f x).fold M (a7 e ca v) (dE m xid ca K) (.b9 v))=fun(v:bB ca)=>a.fold M (a7 e ca v) (dE m xid ca fun x S aw=>K (f x) S aw) (.b9 v):=by
   funext v
   rw[lf (t:=a) h.2.1];simp only[zM h.1]
  rw[this];generalize b3 _ _ _=L
  cases L with
  |inl r=>rfl
  |inr v=>exact lf (t:=k) h.2.2 _ K d
 | .bad _,_,_,_,_,_,_=>rfl
theorem wM{t:ay}{f:bH→bH}(h:t.hC f)(e:Env):run M (t.rel f) e=(run M t e).map fun l=>(f l.1,l.2):=by
 unfold run
 rw[lf h,fold_map t (fun o:Option lO=>o.map fun l=>(f l.1,l.2))]
 rfl
theorem kG: ∀{t:ay} {f:bH→bH},t.hC f→∀{e:Env},(t.rel f).safe M e↔t.safe M e
 | .cc _ _,_,_,_=>Iff.rfl
 | .lt _ _ t,_,h,_=>kG (t:=t) h
 | .eW _ t,_,h,_=>by simp only[ay.rel,ay.safe,kG (t:=t) h]
 | .it c a b,f,h,e=>by simp only[ay.rel,ay.safe,kG (t:=a) h.1,kG (t:=b) h.2]
 | .c3 n a ps k,f,h,e=>by
  have ai: ∀x,(bif bH.bu n x then x else f x).bu n=x.bu n:=fun x=>by
   cases hx:x.bu n with
   |true=>exact hx
   |false=>exact h.1 x hx
  simp only[ay.rel,ay.safe,kG (t:=a) h.2.1,kG (t:=k) h.2.2,ay.ie,nu h.2.1,lf h.2.1,ai]
 | .dJ m xid cQ bI ca a k,f,h,e=>by
  simp only[ay.rel,ay.safe,kG (t:=a) h.2.1,kG (t:=k) h.2.2,lf h.2.1,zM h.1]
 | .eh m xid ca a k,f,h,e=>by
  simp only[ay.rel,ay.safe,kG (t:=a) h.2.1,kG (t:=k) h.2.2,lf h.2.1,zM h.1]
 | .bad _,_,_,_=>Iff.rfl
end
def ay.lvl:ay→Nat
 | .lt _ _ t=>t.lvl
 | .eW _ t=>t.lvl
 | .it _ a b=>Nat.max a.lvl b.lvl
 | .c3 n a _ k=>Nat.max n (Nat.max a.lvl k.lvl)
 | .dJ m _ _ _ _ a k=>Nat.max m (Nat.max a.lvl k.lvl)
 | .eh m _ _ a k=>Nat.max m (Nat.max a.lvl k.lvl)
 |_=>0
def e8(n:Nat):bH→bH
 | .bY=>.kg n
 |x=>x
def nv(i:Nat):bH→bH
 | .ext m=>match Nat.beq m i with
  |true=>.bY
  |false=>.ext m
 |x=>x
theorem To(i n:Nat)(x:bH)(h:x.bu n=false):(nv i x).bu n=false:=by
 unfold nv
 split
 ·split
  ·rfl
  ·exact h
 ·exact h
theorem Tp(i n:Nat)(x:bH)(h:x.cp n=false):(nv i x).cp n=false:=by
 unfold nv
 split
 ·split
  ·rfl
  ·exact h
 ·exact h
theorem Tq(i n:Nat)(hn:i≠n)(x:bH)(h:x.bu n=false):(e8 i x).bu n=false:=by
 unfold e8
 split
 ·show Nat.beq i n=false
  rw[oo];exact decide_eq_false hn
 ·exact h
theorem Tr(i n:Nat)(x:bH)(h:x.cp n=false):(e8 i x).cp n=false:=by
 unfold e8
 split
 ·rfl
 ·exact h
theorem lQ: ∀{t:ay} {f:bH→bH} (N:Nat),t.lvl<N→(∀n,n<N→∀x,x.bu n=false→(f x).bu n=false)→(∀n x,x.cp n=false→(f x).cp n=false)→t.hC f
 | .cc _ _,_,_,_,_,_=>trivial
 | .lt _ _ t,_,N,an,aa,af=>lQ (t:=t) N an aa af
 | .eW _ t,_,N,an,aa,af=>lQ (t:=t) N an aa af
 | .it _ a b,f,N,an,aa,af=>by
  have an:Nat.max a.lvl b.lvl<N:=an
  have g1:a.lvl≤Nat.max a.lvl b.lvl:=Nat.le_max_left _ _
  have g2:b.lvl≤Nat.max a.lvl b.lvl:=Nat.le_max_right _ _
  exact⟨lQ (t:=a) N (by omega) aa af,lQ (t:=b) N (by omega) aa af⟩
 | .c3 n a _ k,f,N,an,aa,af=>by
  have an:Nat.max n (Nat.max a.lvl k.lvl)<N:=an
  have g0:n≤Nat.max n (Nat.max a.lvl k.lvl):=Nat.le_max_left _ _
  have g3:Nat.max a.lvl k.lvl≤Nat.max n (Nat.max a.lvl k.lvl):=Nat.le_max_right _ _
  have g1:a.lvl≤Nat.max a.lvl k.lvl:=Nat.le_max_left _ _
  have g2:k.lvl≤Nat.max a.lvl k.lvl:=Nat.le_max_right _ _
  refine⟨aa n (by omega),lQ (t:=a) N (by omega) (fun p ak x hx=>?_) (fun p x hx=>?_),lQ (t:=k) N (by omega) aa af⟩
  ·cases x.bu n with
   |true=>exact hx
   |false=>exact aa p ak x hx
  ·cases x.bu n with
   |true=>exact hx
   |false=>exact af p x hx
 | .dJ m xid _ _ _ a k,f,N,an,aa,af=>by
  have an:Nat.max m (Nat.max a.lvl k.lvl)<N:=an
  have g0:m≤Nat.max m (Nat.max a.lvl k.lvl):=Nat.le_max_left _ _
  have g3:Nat.max a.lvl k.lvl≤Nat.max m (Nat.max a.lvl k.lvl):=Nat.le_max_right _ _
  have g1:a.lvl≤Nat.max a.lvl k.lvl:=Nat.le_max_left _ _
  have g2:k.lvl≤Nat.max a.lvl k.lvl:=Nat.le_max_right _ _
  refine⟨fun x hx ax=>⟨aa m (by omega) x hx,af xid x ax⟩,lQ (t:=a) N (by omega) (fun p ak x hx=>?_) (fun p x hx=>?_),lQ (t:=k) N (by omega) aa af⟩
  ·cases x.bu m||x.cp xid with
   |true=>exact hx
   |false=>exact aa p ak x hx
  ·cases x.bu m||x.cp xid with
   |true=>exact hx
   |false=>exact af p x hx
 | .eh m xid _ a k,f,N,an,aa,af=>by
  have an:Nat.max m (Nat.max a.lvl k.lvl)<N:=an
  have g0:m≤Nat.max m (Nat.max a.lvl k.lvl):=Nat.le_max_left _ _
  have g3:Nat.max a.lvl k.lvl≤Nat.max m (Nat.max a.lvl k.lvl):=Nat.le_max_right _ _
  have g1:a.lvl≤Nat.max a.lvl k.lvl:=Nat.le_max_left _ _
  have g2:k.lvl≤Nat.max a.lvl k.lvl:=Nat.le_max_right _ _
  refine⟨fun x hx ax=>⟨aa m (by omega) x hx,af xid x ax⟩,lQ (t:=a) N (by omega) (fun p ak x hx=>?_) (fun p x hx=>?_),lQ (t:=k) N (by omega) aa af⟩
  ·cases x.bu m||x.cp xid with
   |true=>exact hx
   |false=>exact aa p ak x hx
  ·cases x.bu m||x.cp xid with
   |true=>exact hx
   |false=>exact af p x hx
 | .bad _,_,_,_,_,_=>trivial
theorem Ts(t:ay)(i:Nat):t.hC (nv i):=lQ (t.lvl+1) (Nat.lt_succ_self _) (fun n _ x=>To i n x) (fun n x=>Tp i n x)
theorem Er{t:ay}{n:Nat}(h:t.lvl<n):t.hC (e8 n):=lQ n h (fun m hm x=>Tq n m (by omega) x) (fun m x=>Tr n m x)
def nw(o:Option (bH→Bool))(x:bH):Bool:=
 match o with
 |none=>true
 |some f=>f x
def ay.eb(f:aq→ay):ay→Option (bH→Bool)→ay
 | .cc .bY S,none=>f S
 | .cc .bY S,some o=>match(f S).eR o with
  |true=>f S
  |false=>.bad 9
 | .cc x S,_=>.cc x S
 | .lt i x t,o=>.lt i x (t.eb f o)
 | .eW n t,o=>.eW n (t.eb f o)
 | .it c a b,o=>.it c (a.eb f o) (b.eb f o)
 | .c3 n a ps k,o=>.c3 n (a.eb f (some fun x=>!(x.bu n)&&nw o x)) ps (k.eb f o)
 | .dJ m xid cQ bI ca a k,o=>.dJ m xid cQ bI ca (a.eb f (some fun x=>!(x.bu m)&&(!(x.cp xid)&&nw o x))) (k.eb f o)
 | .eh m xid ca a k,o=>.eh m xid ca (a.eb f (some fun x=>!(x.bu m)&&(!(x.cp xid)&&nw o x))) (k.eb f o)
 | .bad n,_=>.bad n
end Go.aG
namespace Go.aG
open Go
theorem ym{R A:Type}{b c:Nat→A→Step R A}(I:Nat→A→Prop)(n:Nat)(h: ∀i v,i<n→I i v→c i v=b i v∧∀bo,b i v= .bP bo→I (i+1) bo): ∀(m k:Nat) (a:A),k+m=n→I k a→bS c k m a=bS b k m a
 |0,_,_,_,_=>rfl
 |m+1,k,a,hn,hi=>by
  obtain⟨aa,af⟩:=h k a (by omega) hi
  simp only[bS,aa]
  cases ad:b k a with
  |ret r=>rfl
  |b9 a=>rfl
  |bP v=>exact ym I n h m (k+1) v (by omega) (af v ad)
theorem Es{R A:Type}{b c:A→Step R A}(I:A→Prop)(h: ∀v,I v→c v=b v∧∀bo,b v= .bP bo→I bo): ∀(m:Nat) (a:A),I a→b3 c m a=b3 b m a∧(je c m a↔je b m a)
 |0,_,_=>⟨rfl,Iff.rfl⟩
 |m+1,a,hi=>by
  obtain⟨aa,af⟩:=h a hi;simp only[b3,je,aa]
  cases ad:b a with
  |ret r=>exact⟨rfl,Iff.rfl⟩
  |b9 a=>exact⟨rfl,Iff.rfl⟩
  |bP v=>exact Es I h m v (af v ad)
def hD(M:List bc)(f:aq→ay)(o:Option lO):Option lO:=
 match o with
 |some (.bY,S,e)=>run M (f S) e
 |o=>o
section
variable {M:List bc} {f:aq→ay}
theorem wN{x:bH}{S:aq}{e:Env}(h:x≠ .bY):hD M f (some (x,S,e))=some (x,S,e):=by
 unfold hD
 split
 ·rename_i hx;cases hx;exact absurd rfl h
 ·rfl
theorem hW(m xid:Nat)(ca:List gE)(a:ay)(e:Env)(v:bB ca):a.fold M e (dE m xid ca fun _ _ _=>()) (.b9 v)=hV (fun _=>()) (cx M m xid ca a e v):=by
 unfold cx
 split
 ·rename_i x S aw h
  rw[jk h,tN]
 ·rename_i h
  rw[wL h];rfl
theorem qA{R A X:Type}{f:R→X}{s:Step R A}{v:A}(h:hV f s= .bP v):s= .bP v:=by
 cases s<;>simp_all[hV]
theorem KP{m xid:Nat}{ca:List gE}{a aW:ay}{e:Env}{v:bB ca}(h:run M aW e=hD M f (run M a e))(an: ∀S aw,run M a e=some (.bY,S,aw)→∃x aN aC,run M (f S) aw=some (x,aN,aC)∧x.bu m=false∧x.cp xid=false):
 cx M m xid ca aW e v=hV (hD M f) (cx M m xid ca a e v):=by
 unfold cx
 rw[h]
 cases ae:run M a e with
 |none=>rfl
 |some l=>
  obtain⟨x,S,aw⟩:=l
  cases x with
  |bY=>
   obtain⟨x,aN,aC,aa,af,ar⟩:=an S aw ae;simp only[hD,aa];rw[jj af ar,jj (x:=.bY) rfl rfl];simp only[hV,hD,aa]
  |ext n=>
   simp only[hD];rw[tN]
   cases hx:bH.cp xid (.ext n)with
   |true=>rw[mr rfl hx,mr rfl hx]
   |false=>rw[jj rfl hx,jj rfl hx];rfl
  |ret=>
   simp only[hD];rw[tN,jj rfl rfl,jj rfl rfl];rfl
  |kg n=>
   simp only[hD];rw[tN]
   cases hx:bH.bu m (.kg n)with
   |true=>rw[mq hx,mq hx]
   |false=>rw[jj hx rfl,jj hx rfl];rfl
theorem lR: ∀{t:ay} {p q:bH→Bool},t.eR p=true→(∀x,p x=true→q x=true)→t.eR q=true
 | .cc x _,_,_,h,aH=>aH x h
 | .lt _ _ t,_,_,h,aH=>lR (t:=t) h aH
 | .eW _ t,_,_,h,aH=>lR (t:=t) h aH
 | .it _ a b,_,_,h,aH=>by
  simp only[ay.eR,Bool.and_eq_true]at h⊢;exact⟨lR h.1 aH,lR h.2 aH⟩
 | .c3 n a _ k,_,_,h,aH=>by
  simp only[ay.eR,Bool.and_eq_true]at h⊢;refine⟨lR h.1 fun x hx=>?_,lR h.2 aH⟩
  simp only[Bool.or_eq_true]at hx⊢;exact hx.imp id (aH x)
 | .dJ m xid _ _ _ a k,_,_,h,aH=>by
  simp only[ay.eR,Bool.and_eq_true]at h⊢;refine⟨lR h.1 fun x hx=>?_,lR h.2 aH⟩
  simp only[Bool.or_eq_true]at hx⊢;exact hx.imp id (Or.imp id (aH x))
 | .eh m xid _ a k,_,_,h,aH=>by
  simp only[ay.eR,Bool.and_eq_true]at h⊢;refine⟨lR h.1 fun x hx=>?_,lR h.2 aH⟩
  simp only[Bool.or_eq_true]at hx⊢;exact hx.imp id (Or.imp id (aH x))
 | .bad _,_,_,h,_=>by cases h
theorem iJ: ∀(t:ay) (o:Option (bH→Bool)) {e:Env},(t.eb f o).safe M e→
    t.safe M e∧run M (t.eb f o) e=hD M f (run M t e)∧∀S aw,run M t e=some (.bY,S,aw)→(f S).safe M aw∧∀p,o=some p→(f S).eR p=true
  | .cc x S,o,e,h=>by
    cases x with
    |bY=>
      cases o with
      |none=>exact⟨trivial,rfl,fun cZ aw ae=>by cases ae;exact⟨h,fun _ ak=>by cases ak⟩⟩
      |some p=>
        simp only[ay.eb]at h
        split at h
        · rename_i an
          have ag:(ay.cc .bY S).eb f (some p)=f S:=by simp only[ay.eb,an]
          rw[ag];exact⟨trivial,rfl,fun cZ aw ae=>by cases ae;exact⟨h,fun _ ak=>by cases ak;exact an⟩⟩
        · exact h.elim
    |_=>exact⟨trivial,rfl,fun cZ aw ae=>by cases ae⟩
  | .lt i x t,o,_,h=>iJ t o (e:=aZ.put _ i _) h
  | .eW n t,o,e,h=>by
    obtain⟨aa,af,ar⟩:=iJ t o h.2;exact⟨⟨h.1,aa⟩,af,ar⟩
  | .it c a b,o,e,h=>by
    have aI:=fun hc=>iJ a o (h.1 hc)
    have ad:=fun hc=>iJ b o (h.2 hc)
    refine⟨⟨fun hc=>(aI hc).1,fun hc=>(ad hc).1⟩,?_⟩
    simp only[run,ay.eb,ay.fold]
    cases hc:c.aD e .bool with
    |true=>exact(aI hc).2
    |false=>exact(ad hc).2
  | .c3 n a ps k,o,e,h=>by
    obtain⟨bN,a2,a3⟩:=iJ a _ h.1
    have ah:(ay.c3 n a ps k).safe M e∧run M ((ay.c3 n a ps k).eb f o) e=hD M f (run M (ay.c3 n a ps k) e)∧∀S aw,run M (ay.c3 n a ps k) e=some (.bY,S,aw)→(f S).safe M aw∧∀p,o=some p→(f S).eR p=true:=by
      show _∧run M (.c3 n (a.eb f (some fun x=>!(x.bu n)&&nw o x)) ps (k.eb f o)) e=_∧_
      cases ae:run M a e with
      |none=>
        rw[ae]at a2
        have a2:run M _ e=none:=a2
        refine⟨⟨bN,fun ai=>by rw[wL ae]at ai;cases ai⟩,?_,fun S aw ai=>by unfold run at ai;rw[qz ae]at ai;cases ai⟩
        unfold run;rw[qz a2,qz ae];rfl
      |some l=>
        obtain⟨x,aN,aC⟩:=l
        cases hx:x.bu n with
        |true=>
          have bX:x≠ .bY:=fun e=>by rw[e]at hx;cases hx
          rw[ae,wN bX]at a2
          have aj:=KO h a2 hx
          obtain⟨eN,hb,tQ⟩:=iJ k o aj;refine⟨⟨bN,fun _=>?_⟩,?_,fun S aw ai=>?_⟩
          · have:(fun(r:aU) (p:dN)=>(⟨r,bif a.ie n
      then a.fold M e (fun _ S aw=>(p.cH S).get aw r) r.gb
      else a.fold M e (fun x S aw=>bif x.bu n then(p.cH S).get aw r else r.gb) r.gb⟩:aS))=fun r p=>⟨r,(p.cH aN).get aC r⟩:=by
              funext r p
              simp only[jk ae,hx]
              cases a.ie n<;>rfl
            rw[this];exact eN
          · unfold run
            rw[oq a2 hx,oq ae hx];exact hb
          · unfold run at ai
            rw[oq ae hx]at ai;exact tQ S aw ai
        |false=>
          have KQ:(ay.c3 n a ps k).safe M e:=⟨bN,fun ai=>by rw[jk ae,hx]at ai;cases ai⟩
          by_cases bX:x= .bY
          · subst bX
            obtain⟨f1,f2⟩:=a3 aN aC ae
            have f2:=f2 _ rfl
            obtain⟨y,dt,a6,g1,g2⟩:=iI (M:=M) (e:=aC) f2;simp only[Bool.and_eq_true,Bool.not_eq_true']at g2;rw[ae]at a2
            have a2:run M _ e=run M (f aN) aC:=a2
            rw[g1]at a2;refine⟨KQ,?_,fun S aw ai=>?_⟩
            · have aa:run M (ay.c3 n a ps k) e=some (.bY,aN,aC):=by unfold run;rw[lP ae hx]
              rw[aa];show _=run M (f aN) aC;rw[g1];unfold run;rw[lP a2 g2.1]
            · unfold run at ai
              rw[lP ae hx]at ai;cases ai;refine⟨f1,fun p ak=>?_⟩
              subst ak;exact lR f2 fun x hx=>by simp only[Bool.and_eq_true]at hx;exact hx.2
          · rw[ae,wN bX]at a2
            refine⟨KQ,?_,fun S aw ai=>?_⟩
            · unfold run
              rw[lP a2 hx,lP ae hx,wN bX]
            · unfold run at ai
              rw[lP ae hx]at ai;cases ai;exact absurd rfl bX
    exact ah
  | .dJ m xid cQ bI ca a k,o,e,h=>by
    obtain⟨⟨I,i0,b5⟩,aj⟩:=h
    have key: ∀(i:Nat) (v:bB ca),i<(b1 (cQ.den M e)).toNat→I i v→a.safe M (a7 (aZ.put e bI ⟨.int .i64,(i:Int)⟩) ca v)∧
        cx M m xid ca (a.eb f (some fun x=>!(x.bu m)&&(!(x.cp xid)&&nw o x))) (a7 (aZ.put e bI ⟨.int .i64,(i:Int)⟩) ca v) v=hV (hD M f) (cx M m xid ca a (a7 (aZ.put e bI ⟨.int .i64,(i:Int)⟩) ca v) v)∧
        (∀bo,cx M m xid ca a (a7 (aZ.put e bI ⟨.int .i64,(i:Int)⟩) ca v) v= .bP bo→I (i+1) bo)∧
        ∀S aw,cx M m xid ca a (a7 (aZ.put e bI ⟨.int .i64,(i:Int)⟩) ca v) v= .ret (some (.bY,S,aw))→(f S).safe M aw∧∀p,o=some p→(f S).eR p=true:=by
      intro i v hi av;obtain⟨s1,s2⟩:=b5 i v hi av;obtain⟨bN,a2,a3⟩:=iJ a _ s1
      have ag:=KP (m:=m) (xid:=xid) (ca:=ca) (v:=v) a2 fun S aw ae=>by
        obtain⟨y,dt,a6,g1,g2⟩:=iI (M:=M) (e:=aw) ((a3 S aw ae).2 _ rfl);simp only[Bool.and_eq_true,Bool.not_eq_true']at g2;exact⟨y,dt,a6,g1,g2.1,g2.2.1⟩
      refine⟨bN,ag,fun bo iK=>s2 bo ?_,fun S aw ae=>?_⟩
      · rw[hW,ag,iK]
        rfl
      · unfold cx at ae
        cases nx:run M a (a7 (aZ.put e bI ⟨.int .i64,(i:Int)⟩) ca v)with
        |none=>rw[nx]at ae;cases ae
        |some l=>
          obtain⟨x,cZ,wE⟩:=l;rw[nx]at ae;simp only at ae
          cases hx:x.bu m with
          |true=>rw[mq hx]at ae;cases ae
          |false=>
            cases ax:x.cp xid with
            |true=>rw[mr hx ax]at ae;cases ae
            |false=>
              rw[jj hx ax]at ae;cases ae;obtain⟨f1,f2⟩:=a3 S aw nx;refine⟨f1,fun p ak=>?_⟩
              subst ak;exact lR (f2 _ rfl) fun x hx=>by simp only[Bool.and_eq_true]at hx;exact hx.2.2
    have tR:bS (fun i (v:bB ca)=>(a.eb f (some fun x=>!(x.bu m)&&(!(x.cp xid)&&nw o x))).fold M (a7 (aZ.put e bI ⟨.int .i64,(i:Int)⟩) ca v) (dE m xid ca fun _ _ _=>()) (.b9 v)) 0 (b1 (cQ.den M e)).toNat (bQ _ (c9 e ca))=
        bS (fun i (v:bB ca)=>a.fold M (a7 (aZ.put e bI ⟨.int .i64,(i:Int)⟩) ca v) (dE m xid ca fun _ _ _=>()) (.b9 v)) 0 (b1 (cQ.den M e)).toNat (bQ _ (c9 e ca)):=
      ym I _ (fun i v hi av=>by
        obtain⟨_,g2,g3,_⟩:=key i v hi av;refine⟨?_,fun bo iK=>g3 bo ?_⟩
        · rw[hW,hW,g2]
          cases cx M m xid ca a (a7 (aZ.put e bI ⟨.int .i64,(i:Int)⟩) ca v) v<;>rfl
        · rw[hW]at iK
          exact qA iK) _ 0 _ (by omega) i0
    rw[tR]at aj
    have fm:bS (fun i (v:bB ca)=>(a.eb f (some fun x=>!(x.bu m)&&(!(x.cp xid)&&nw o x))).fold M (a7 (aZ.put e bI ⟨.int .i64,(i:Int)⟩) ca v) (dE m xid ca fun x S e=>some (x,S,e)) (.b9 v)) 0 (b1 (cQ.den M e)).toNat (bQ _ (c9 e ca))=
        bS (fun i (v:bB ca)=>hV (hD M f) (cx M m xid ca a (a7 (aZ.put e bI ⟨.int .i64,(i:Int)⟩) ca v) v)) 0 (b1 (cQ.den M e)).toNat (bQ _ (c9 e ca)):=
      ym I _ (fun i v hi av=>by
        obtain⟨_,g2,g3,_⟩:=key i v hi av;refine⟨?_,fun bo iK=>g3 bo (qA iK)⟩
        rw[tO,g2]) _ 0 _ (by omega) i0
    have fk: ∀(n i:Nat) (v:bB ca),i+n=(b1 (cQ.den M e)).toNat→I i v→∀S aw,bS (fun i (v:bB ca)=>cx M m xid ca a (a7 (aZ.put e bI ⟨.int .i64,(i:Int)⟩) ca v) v) i n v= .inl (some (.bY,S,aw))→(f S).safe M aw∧∀p,o=some p→(f S).eR p=true:=by
      intro n
      induction n with
      |zero=>intro i v _ _ S aw h;cases h
      |succ n aO=>
        intro i v Ds av S aw h;obtain⟨_,_,g3,g4⟩:=key i v (by omega) av
        simp only[bS]at h
        cases ae:cx M m xid ca a (a7 (aZ.put e bI ⟨.int .i64,(i:Int)⟩) ca v) v with
        |ret r=>rw[ae]at h;cases h;exact g4 S aw ae
        |b9 bo=>rw[ae]at h;cases h
        |bP bo=>rw[ae]at h;exact aO (i+1) bo (by omega) (g3 bo ae) S aw h
    have cD:run M (.dJ m xid cQ bI ca a k) e=Sum.elim (fun r=>r) (fun v=>run M k (a7 e ca v)) (bS (fun i (v:bB ca)=>cx M m xid ca a (a7 (aZ.put e bI ⟨.int .i64,(i:Int)⟩) ca v) v) 0 (b1 (cQ.den M e)).toNat (bQ _ (c9 e ca))):=by
      unfold run;rw[tP];simp only[tO]
    have Et:run M ((ay.dJ m xid cQ bI ca a k).eb f o) e=Sum.elim (fun r=>r) (fun v=>run M (k.eb f o) (a7 e ca v)) (Sum.map (hD M f) id (bS (fun i (v:bB ca)=>cx M m xid ca a (a7 (aZ.put e bI ⟨.int .i64,(i:Int)⟩) ca v) v) 0 (b1 (cQ.den M e)).toNat (bQ _ (c9 e ca)))):=by
      show ay.fold M (.dJ m xid cQ bI ca (a.eb f (some fun x=>!(x.bu m)&&(!(x.cp xid)&&nw o x))) (k.eb f o)) e _ none=_;rw[tP,fm,tL (hD M f) (fun _ _=>rfl)];rfl
    have dZ: ∀v,bS (fun i (v:bB ca)=>cx M m xid ca a (a7 (aZ.put e bI ⟨.int .i64,(i:Int)⟩) ca v) v) 0 (b1 (cQ.den M e)).toNat (bQ _ (c9 e ca))= .inr v→(k.eb f o).safe M (a7 e ca v):=fun v av=>by
      simp only[hW]at aj;rw[tL (fun _=>()) (fun _ _=>rfl),av]at aj;exact aj
    refine⟨⟨⟨I,i0,fun i v hi av=>?_⟩,?_⟩,?_,fun S aw ae=>?_⟩
    · obtain⟨g1,_,g3,_⟩:=key i v hi av
      exact⟨g1,fun bo iK=>g3 bo (qA (by rw[hW]at iK;exact iK))⟩
    · simp only[hW]
      rw[tL (fun _=>()) (fun _ _=>rfl)]
      cases av:bS (fun i (v:bB ca)=>cx M m xid ca a (a7 (aZ.put e bI ⟨.int .i64,(i:Int)⟩) ca v) v) 0 (b1 (cQ.den M e)).toNat (bQ _ (c9 e ca))with
      |inl r=>trivial
      |inr v=>exact(iJ k o (dZ v av)).1
    · rw[cD,Et]
      cases av:bS (fun i (v:bB ca)=>cx M m xid ca a (a7 (aZ.put e bI ⟨.int .i64,(i:Int)⟩) ca v) v) 0 (b1 (cQ.den M e)).toNat (bQ _ (c9 e ca))with
      |inl r=>rfl
      |inr v=>exact(iJ k o (dZ v av)).2.1
    · rw[cD]at ae
      cases av:bS (fun i (v:bB ca)=>cx M m xid ca a (a7 (aZ.put e bI ⟨.int .i64,(i:Int)⟩) ca v) v) 0 (b1 (cQ.den M e)).toNat (bQ _ (c9 e ca))with
      |inl r=>
        rw[av]at ae
        have ae:r=some (.bY,S,aw):=ae
        subst ae;exact fk _ 0 _ (by omega) i0 S aw av
      |inr v=>
        rw[av]at ae;exact(iJ k o (dZ v av)).2.2 S aw ae
  | .eh m xid ca a k,o,e,h=>by
    obtain⟨⟨I,i0,b5⟩,he,aj⟩:=h
    have key: ∀(v:bB ca),I v→a.safe M (a7 e ca v)∧
        cx M m xid ca (a.eb f (some fun x=>!(x.bu m)&&(!(x.cp xid)&&nw o x))) (a7 e ca v) v=hV (hD M f) (cx M m xid ca a (a7 e ca v) v)∧
        (∀bo,cx M m xid ca a (a7 e ca v) v= .bP bo→I bo)∧
        ∀S aw,cx M m xid ca a (a7 e ca v) v= .ret (some (.bY,S,aw))→(f S).safe M aw∧∀p,o=some p→(f S).eR p=true:=by
      intro v av;obtain⟨s1,s2⟩:=b5 v av;obtain⟨bN,a2,a3⟩:=iJ a _ s1
      have ag:=KP (m:=m) (xid:=xid) (ca:=ca) (v:=v) a2 fun S aw ae=>by
        obtain⟨y,dt,a6,g1,g2⟩:=iI (M:=M) (e:=aw) ((a3 S aw ae).2 _ rfl);simp only[Bool.and_eq_true,Bool.not_eq_true']at g2;exact⟨y,dt,a6,g1,g2.1,g2.2.1⟩
      refine⟨bN,ag,fun bo iK=>s2 bo ?_,fun S aw ae=>?_⟩
      · rw[hW,ag,iK]
        rfl
      · unfold cx at ae
        cases nx:run M a (a7 e ca v)with
        |none=>rw[nx]at ae;cases ae
        |some l=>
          obtain⟨x,cZ,wE⟩:=l;rw[nx]at ae;simp only at ae
          cases hx:x.bu m with
          |true=>rw[mq hx]at ae;cases ae
          |false=>
            cases ax:x.cp xid with
            |true=>rw[mr hx ax]at ae;cases ae
            |false=>
              rw[jj hx ax]at ae;cases ae;obtain⟨f1,f2⟩:=a3 S aw nx;refine⟨f1,fun p ak=>?_⟩
              subst ak;exact lR (f2 _ rfl) fun x hx=>by simp only[Bool.and_eq_true]at hx;exact hx.2.2
    have tR:=Es (b:=fun(v:bB ca)=>(a.fold M (a7 e ca v) (dE m xid ca fun _ _ _=>()) (.b9 v):Step Unit (bB ca))) (c:=fun(v:bB ca)=>((a.eb f (some fun x=>!(x.bu m)&&(!(x.cp xid)&&nw o x))).fold M (a7 e ca v) (dE m xid ca fun _ _ _=>()) (.b9 v):Step Unit (bB ca))) I (fun v av=>by
        obtain⟨_,g2,g3,_⟩:=key v av;refine⟨?_,fun bo iK=>g3 bo ?_⟩
        · rw[hW,hW,g2]
          cases cx M m xid ca a (a7 e ca v) v<;>rfl
        · rw[hW]at iK
          exact qA iK) cX _ i0
    rw[tR.1]at aj
    have he:=tR.2.1 he
    have fm:=(Es (b:=fun(v:bB ca)=>hV (hD M f) (cx M m xid ca a (a7 e ca v) v)) (c:=fun(v:bB ca)=>(a.eb f (some fun x=>!(x.bu m)&&(!(x.cp xid)&&nw o x))).fold M (a7 e ca v) (dE m xid ca fun x S e=>some (x,S,e)) (.b9 v)) I (fun v av=>by
        obtain⟨_,g2,g3,_⟩:=key v av;refine⟨?_,fun bo iK=>g3 bo (qA iK)⟩
        rw[tO,g2]) cX _ i0).1
    have fk: ∀(n:Nat) (v:bB ca),I v→∀S aw,b3 (fun(v:bB ca)=>cx M m xid ca a (a7 e ca v) v) n v= .inl (some (.bY,S,aw))→(f S).safe M aw∧∀p,o=some p→(f S).eR p=true:=by
      intro n
      induction n with
      |zero=>intro v _ S aw h;cases h
      |succ n aO=>
        intro v av S aw h;obtain⟨_,_,g3,g4⟩:=key v av;simp only[b3]at h
        cases ae:cx M m xid ca a (a7 e ca v) v with
        |ret r=>rw[ae]at h;cases h;exact g4 S aw ae
        |b9 bo=>rw[ae]at h;cases h
        |bP bo=>rw[ae]at h;exact aO bo (g3 bo ae) S aw h
    have cD:run M (.eh m xid ca a k) e=Sum.elim (fun r=>r) (fun v=>run M k (a7 e ca v)) (b3 (fun(v:bB ca)=>cx M m xid ca a (a7 e ca v) v) cX (bQ _ (c9 e ca))):=by
      simp only[run,ay.fold,tO]
    have Et:run M ((ay.eh m xid ca a k).eb f o) e=Sum.elim (fun r=>r) (fun v=>run M (k.eb f o) (a7 e ca v)) (Sum.map (hD M f) id (b3 (fun(v:bB ca)=>cx M m xid ca a (a7 e ca v) v) cX (bQ _ (c9 e ca)))):=by
      rw[←tM (hD M f) (c:=fun(v:bB ca)=>hV (hD M f) (cx M m xid ca a (a7 e ca v) v)) (fun _=>rfl),←fm];rfl
    have dZ: ∀v,b3 (fun(v:bB ca)=>cx M m xid ca a (a7 e ca v) v) cX (bQ _ (c9 e ca))= .inr v→(k.eb f o).safe M (a7 e ca v):=fun v av=>by
      simp only[hW]at aj;rw[tM (fun _=>()) (fun _=>rfl),av]at aj;exact aj
    refine⟨⟨⟨I,i0,fun v av=>?_⟩,he,?_⟩,?_,fun S aw ae=>?_⟩
    · obtain⟨g1,_,g3,_⟩:=key v av
      exact⟨g1,fun bo iK=>g3 bo (qA (by rw[hW]at iK;exact iK))⟩
    · simp only[hW]
      rw[tM (fun _=>()) (fun _=>rfl)]
      cases av:b3 (fun(v:bB ca)=>cx M m xid ca a (a7 e ca v) v) cX (bQ _ (c9 e ca))with
      |inl r=>trivial
      |inr v=>exact(iJ k o (dZ v av)).1
    · rw[cD,Et]
      cases av:b3 (fun(v:bB ca)=>cx M m xid ca a (a7 e ca v) v) cX (bQ _ (c9 e ca))with
      |inl r=>rfl
      |inr v=>exact(iJ k o (dZ v av)).2.1
    · rw[cD]at ae
      cases av:b3 (fun(v:bB ca)=>cx M m xid ca a (a7 e ca v) v) cX (bQ _ (c9 e ca))with
      |inl r=>
        rw[av]at ae
        have ae:r=some (.bY,S,aw):=ae
        subst ae;exact fk _ _ i0 S aw av
      |inr v=>
        rw[av]at ae;exact(iJ k o (dZ v av)).2.2 S aw ae
  | .bad _,_,_,h=>h.elim
end
end Go.aG
namespace Go.aG
open Go
theorem pr(G:aY)(e:Env)(l:aZ ab): ∀(n i j:Nat),(ji G e l i n)[j]? =if j<n then some (match l.get (i+j)with|some x=>x.den G e|none=>.top)else none
 |0,_,_=>by simp[ji]
 |n+1,i,0=>by simp only[ji,List.getElem?_cons_zero,Nat.add_zero,Nat.zero_lt_succ,if_true];rfl
 |n+1,i,j+1=>by
  simp only[ji,List.getElem?_cons_succ,pr G e l n (i+1) j]
  rw[show i+1+j=i+(j+1)by omega]
  simp
theorem Eu(G:aY)(e:Env)(l:aZ ab): ∀(n i:Nat),(ji G e l i n).length=n
 |0,_=>rfl
 |n+1,i=>by simp[ji,Eu G e l n (i+1)]
theorem sb(G:aY)(N B:Nat)(e:Env)(S:aq)(j:Nat):(S.den G N B e).cl[j]? =if j<N then some ((S.at j).den G e)else none:=by
 simp only[aq.den,pr,Nat.zero_add]
 by_cases h:j<N
 ·simp only[h,if_true,Option.some.injEq]
  unfold aq.at
  cases S.l.get j<;>rfl
 ·simp[h]
def wO:ab→ab→Bool
 | .bb r i,.bb q j=>Nat.beq i j&&iH r q
 | .fd c i k r,.fd d j m q=>(Nat.beq i j&&Nat.beq k m)&&(decide (c=d)&&iH r q)
 |_,_=>false
theorem Ev{x y:ab}(h:wO x y=true):x=y:=by
 unfold wO at h
 split at h
 ·simp only[Bool.and_eq_true]at h
  rw[Nat.eq_of_beq_eq_true h.1,hT h.2]
 ·simp only[Bool.and_eq_true,decide_eq_true_eq]at h
  rw[Nat.eq_of_beq_eq_true h.1.1,Nat.eq_of_beq_eq_true h.1.2,h.2.1,hT h.2.2]
 ·cases h
def kh(g:ab):List bJ→Option Bool
 |[]=>none
 | .dp h b::r=>match wO h g with
  |true=>some b
  |false=>kh g r
 |_::r=>kh g r
theorem ot{e:Env}{g:ab}{b:Bool}: ∀{l:List bJ},kh g l=some b→(∀c∈l,c.ok e)→g.aD e .bool=b
 | .dp h b'::r,aj,hc=>by
  simp only[kh]at aj
  split at aj
  ·rename_i ah
   cases aj;rw[←Ev ah];exact hc (.dp h b) (by simp)
  ·exact ot aj fun c hm=>hc c (by simp[hm])
 | .d1 _ _ _::r,aj,hc=>ot (l:=r) aj fun c hm=>hc c (by simp[hm])
 | .d2 _ _ _ _::r,aj,hc=>ot (l:=r) aj fun c hm=>hc c (by simp[hm])
 | .rg _ _::r,aj,hc=>ot (l:=r) aj fun c hm=>hc c (by simp[hm])
def ab.res(l:List bJ):ab→ab
 | .e6 g b v=>match kh g l with
  |some c=>match decide (c=b)with
   |true=>v.res l
   |false=>.tp []
  |none=>.e6 g b (v.res l)
 | .eH g id off=>match kh g l,id with
  |some true,some id=>.de id off
  |some false,_=>.cs (.pointer none)
  |_,_=>.eH g id off
 |x=>x
theorem KR{l:List bJ}{g v:ab}{b:Bool}:(ab.e6 g b v).res l=match kh g l with
 |some c=>match decide (c=b)with
  |true=>v.res l
  |false=>.tp []
 |none=>.e6 g b (v.res l):=by rw[ab.res]
theorem KS{l:List bJ}{g:ab}{id:Option Nat}{off:Nat}:(ab.eH g id off).res l=match kh g l,id with
 |some true,some id=>.de id off
 |some false,_=>.cs (.pointer none)
 |_,_=>.eH g id off:=by
 cases aj:kh g l with
 |none=>simp only[ab.res,aj]
 |some b=>cases b<;>cases id<;>simp only[ab.res,aj]
theorem Ew{G:aY}{e:Env}{l:List bJ}(hc: ∀c∈l,c.ok e): ∀{x:ab},(x.res l).den G e=x.den G e
 | .e6 g b v=>by
  have aO:=Ew (G:=G) hc (x:=v)
  rw[KR]
  split
  ·rename_i c aj
   have:=ot aj hc
   split
   ·rename_i hd
    have hd:=of_decide_eq_true hd
    subst hd;rw[aO];simp only[ab.den,this]
    cases c<;>rfl
   ·rename_i hd
    have hd:=of_decide_eq_false hd
    simp only[ab.den,this]
    cases c<;>cases b<;>first|rfl|exact absurd rfl hd
  ·simp only[ab.den,aO]
 | .bb _ _=>rfl
 | .fd _ _ _ _=>rfl
 | .cs _=>rfl
 | .ip _ _ _=>rfl
 | .cm _=>rfl
 | .tp _=>rfl
 | .de _ _=>rfl
 | .fY _ _ _=>rfl
 | .aL _=>rfl
 | .fn _ _ _=>rfl
 | .ia _=>rfl
 | .kF _ _=>rfl
 | .ga _ _ _ _=>rfl
 | .cC _ _=>rfl
 | .eH g id off=>by
  rw[KS]
  cases aj:kh g l with
  |none=>rfl
  |some c=>
   have:=ot aj hc
   cases c with
   |true=>cases id with
    |none=>rfl
    |some id=>simp only[ab.den,this]
   |false=>simp only[ab.den,this]
 | .top=>rfl
theorem Ex{l:List bJ}{k:Nat}: ∀{x:ab},x.lt k=true→(x.res l).lt k=true
 | .e6 g b v,h=>by
  simp only[ab.lt,Bool.and_eq_true]at h;rw[KR]
  split
  ·split
   ·exact Ex h.2
   ·rfl
  ·simp only[ab.lt,h.1,Ex h.2,Bool.and_self]
 | .bb _ _,h=>h
 | .fd _ _ _ _,h=>h
 | .cs _,h=>h
 | .ip _ _ _,h=>h
 | .cm _,h=>h
 | .tp _,h=>h
 | .de _ _,h=>h
 | .fY _ _ _,h=>h
 | .aL _,h=>h
 | .fn _ _ _,h=>h
 | .ia _,h=>h
 | .kF _ _,h=>h
 | .ga _ _ _ _,h=>h
 | .cC _ _,h=>h
 | .eH g id off,h=>by
  rw[KS]
  cases kh g l with
  |none=>exact h
  |some c=>cases c with
   |true=>cases id with
    |none=>exact h
    |some id=>rfl
   |false=>rfl
 | .top,h=>h
def aq.aX(N:Nat)(S:aq):Operand→ab
 | .tmp t=>match Nat.blt t N with
  |true=>(S.at t).res S.g
  |false=>.top
 | .const v=>match v.oneCell' with
  |true=>.cs v
  |false=>.top
 | .global g=>.kF g 0
 | .func f=>.fn (.func f) [] []
section
variable {G:aY} {N B:Nat} {e:Env} {S:aq}
theorem bw(hf: ∀c∈S.g,c.ok e)(x:Operand):aE G (S.den G N B e) x=(S.aX N x).den G e:=by
 cases x with
 |tmp t=>
  simp only[aE,aq.aX,List.getD_eq_getElem?_getD,sb]
  cases h:Nat.blt t N with
  |true=>
   have:t<N:=eF h
   simp[this,Ew hf]
  |false=>
   have: ¬t<N:=fun h'=>by rw[iS h']at h;cases h
   simp[this,ab.den]
 |const v=>
  simp only[aE,aq.aX]
  cases v.oneCell'<;>simp[ab.den]
 |global g=>
  simp only[aE,aq.aX,ab.den]
  cases G g with
  |none=>rfl
  |some l=>simp
 |func f=>simp[aE,aq.aX,ab.den,ab.bF]
def aq.put(S:aq)(dst:Option Nat)(v:ab):aq:=
 match dst with
 |some d=>{S with l:=S.l.put d v}
 |none=>S
theorem Ey(d:Nat)(v:ab)(l:aZ ab):ji G e (l.put d v) 0 N=(ji G e l 0 N).set d (v.den G e):=by
 apply List.ext_getElem?
 intro j
 rw[pr,List.getElem?_set,pr,Eu,Nat.zero_add,aZ.jf]
 by_cases hd:d=j
 ·subst hd
  by_cases ai:d<N<;>simp[ai]
 ·simp[hd]
theorem fh(dst:Option Nat)(v:ab):(S.put dst v).den G N B e=(S.den G N B e).put dst (v.den G e):=by
 cases dst with
 |none=>rfl
 |some d=>simp only[aq.put,aq.den,aJ.put,Ey]
theorem et: ∀(h:List (Nat × bq)) (id:Nat),aA (cv G e h) id=(c2 h id).map (bq.den G e)
 |[],_=>rfl
 |(i,o)::r,id=>by
  simp only[cv,aA,c2,oo]
  by_cases h:i=id
  ·simp[h]
  ·simp only[h,if_false,decide_false]
   exact et r id
theorem sc: ∀(h:List (Nat × bq)) (id:Nat) (o:bq),cv G e (jO h id o)=eG (cv G e h) id (o.den G e)
 |[],_,_=>rfl
 |(i,p)::r,id,o=>by
  simp only[jO,cv,eG,oo]
  by_cases h:i=id
  ·simp[h,cv]
  ·simp only[h,decide_false,if_false,cv,sc r id o]
end
def bq.lt(k:Nat):bq→Bool
 | .cT _ l=>ab.cj k l
 | .rw _ _ x=>x.lt k
 | .it x p=>x.lt k&&p.lt k
def ei(k:Nat):List (Nat × bq)→Bool
 |[]=>true
 |(_,o)::r=>o.lt k&&ei k r
def bJ.lt(k:Nat):bJ→Bool
 | .d1 i _ x=>Nat.blt i k&&x.lt k
 | .d2 i _ x y=>Nat.blt i k&&(x.lt k&&y.lt k)
 | .rg i b=>Nat.blt i k&&b.lt k
 | .dp g _=>g.lt k
def eI(k:Nat):List bJ→Bool
 |[]=>true
 |c::r=>c.lt k&&eI k r
structure aq.cd (S:aq):Prop where
 l: ∀i x,S.l.get i=some x→x.lt S.k=true
 h:ei S.k S.h=true
 g:eI S.k S.g=true
mutual
theorem fT{k m:Nat}(h:k≤m): ∀{x:ab},x.lt k=true→x.lt m=true:=fun {x} hx=>by
 cases x with
 |bb r i=>exact iS (Nat.lt_of_lt_of_le (eF hx) h)
 |fd c i j r=>exact iS (Nat.lt_of_lt_of_le (eF (i:=i) hx) h)
 |ip c i j=>exact iS (Nat.lt_of_lt_of_le (eF (i:=i) hx) h)
 |cm l=>exact tS (l:=l) h hx
 |tp l=>exact tS (l:=l) h hx
 |fY id x off=>exact fT (x:=x) h hx
 |ga id off x n=>exact fT (x:=x) h hx
 |eH g id off=>exact fT (x:=g) h hx
 |fn f a b=>
  simp only[ab.lt,Bool.and_eq_true]at hx⊢;exact⟨tS h hx.1,tS h hx.2⟩
 |e6 g b x=>
  simp only[ab.lt,Bool.and_eq_true]at hx⊢;exact⟨fT h hx.1,fT h hx.2⟩
 |_=>rfl
theorem tS{k m:Nat}(h:k≤m): ∀{l:List ab},ab.cj k l=true→ab.cj m l=true:=fun {l} an=>by
 match l with
 |[]=>rfl
 |x::r=>
  simp only[ab.cj,Bool.and_eq_true]at an⊢;exact⟨fT h an.1,tS h an.2⟩
end
theorem sd{k m:Nat}(h:k≤m): ∀{l:List (Nat × bq)},ei k l=true→ei m l=true
 |[],_=>rfl
 |(_,o)::r,an=>by
  simp only[ei,Bool.and_eq_true]at an⊢;refine⟨?_,sd h an.2⟩
  cases o with
  |cT t l=>exact tS h (l:=l) an.1
  |rw t c x=>exact fT h (x:=x) an.1
  |it x p=>
   have aa:=an.1
   simp only[bq.lt,Bool.and_eq_true]at aa⊢;exact⟨fT h aa.1,fT h aa.2⟩
theorem ny{k m:Nat}(h:k≤m): ∀{l:List bJ},eI k l=true→eI m l=true
 |[],_=>rfl
 |c::r,an=>by
  simp only[eI,Bool.and_eq_true]at an⊢;refine⟨?_,ny h an.2⟩
  cases c with
  |d1 i f x=>
   have:=an.1
   simp only[bJ.lt,Bool.and_eq_true]at this⊢;exact⟨iS (Nat.lt_of_lt_of_le (eF this.1) h),fT h this.2⟩
  |d2 i f x y=>
   have:=an.1
   simp only[bJ.lt,Bool.and_eq_true]at this⊢;exact⟨iS (Nat.lt_of_lt_of_le (eF this.1) h),fT h this.2.1,fT h this.2.2⟩
  |rg i b=>
   have:=an.1
   simp only[bJ.lt,Bool.and_eq_true]at this⊢;exact⟨iS (Nat.lt_of_lt_of_le (eF this.1) h),fT h this.2⟩
  |dp g b=>exact fT h (x:=g) an.1
section
variable {G:aY} {N B:Nat} {e aw:Env} {S:aq} {k:Nat}
theorem wP(h:bM k e aw): ∀{l:List (Nat × bq)},ei k l=true→cv G aw l=cv G e l
 |[],_=>rfl
 |(_,o)::r,an=>by
  simp only[ei,Bool.and_eq_true]at an;simp only[cv,wP h an.2]
  congr 2
  cases o with
  |cT t l=>simp only[bq.den,tG h (l:=l) an.1]
  |rw t c x=>simp only[bq.den,e7 h (x:=x) an.1]
  |it x p=>
   have aa:=an.1
   simp only[bq.lt,Bool.and_eq_true]at aa;simp only[bq.den,e7 h (x:=x) aa.1,e7 h (x:=p) aa.2]
theorem ki(h:bM S.k e aw)(ad:S.cd):S.den G N B aw=S.den G N B e:=by
 simp only[aq.den,aJ.mk.injEq,and_true,true_and]
 refine⟨?_,wP h ad.h⟩
 apply List.ext_getElem?
 intro j
 rw[pr,pr]
 by_cases ai:j<N
 ·simp only[ai,if_true,Option.some.injEq]
  cases ag:S.l.get (0+j)with
  |none=>rfl
  |some x=>exact qv h (ad.l _ x ag)
 ·simp[ai]
theorem hE(h:bM k e aw): ∀{l:List bJ},eI k l=true→(∀c∈l,c.ok e)→∀c∈l,c.ok aw
 |[],_,_,_,hc=>by cases hc
 |d::r,an,hf,c,hc=>by
  simp only[eI,Bool.and_eq_true]at an
  rcases List.mem_cons.1 hc with rfl|hc
  ·have aP:=hf c (by simp)
   cases c with
   |d1 i f x=>
    have aa:=an.1
    simp only[bJ.lt,Bool.and_eq_true]at aa;simp only[bJ.ok]at aP⊢;rw[h i (eF aa.1),e7 h aa.2];exact aP
   |d2 i f x y=>
    have aa:=an.1
    simp only[bJ.lt,Bool.and_eq_true]at aa;simp only[bJ.ok]at aP⊢;rw[h i (eF aa.1),e7 h aa.2.1,e7 h aa.2.2];exact aP
   |rg i b=>
    have aa:=an.1
    simp only[bJ.lt,Bool.and_eq_true]at aa;simp only[bJ.ok]at aP⊢;rw[h i (eF aa.1),qu h aa.2];exact aP
   |dp g b=>
    simp only[bJ.ok]at aP⊢;rw[e7 h (x:=g) an.1];exact aP
  ·exact hE h an.2 (fun c hc=>hf c (by simp[hc])) c hc
theorem wQ(ad:S.cd)(x:Operand):(S.aX N x).lt S.k=true:=by
 cases x with
 |tmp t=>
  simp only[aq.aX]
  split
  ·refine Ex ?_
   unfold aq.at
   split
   ·rename_i x hx;exact ad.l _ x hx
   ·rfl
  ·rfl
 |const v=>simp only[aq.aX];split<;>rfl
 |global g=>rfl
 |func f=>rfl
end
def bG.lt(k:Nat):bG→Bool
 | .pj _ x=>x.lt k
 | .f1 _ x=>x.lt k
 | .f2 _ x y=>x.lt k&&y.lt k
 | .eC _ x lo hi=>x.lt k&&(ab.cj k lo.toList&&ab.cj k hi.toList)
 | .r9 x lo hi=>x.lt k&&(ab.cj k lo.toList&&ab.cj k hi.toList)
 | .zK _ g x y=>g.lt k&&(x.lt k&&y.lt k)
 | .wK _ _ l m=>ab.cj k l&&ab.cj k m
 | .tK _ l=>ab.cj k l
 | .up _ l i x=>l.lt k&&(i.lt k&&x.lt k)
 | .nth _ l i=>ab.cj k l&&i.lt k
 | .zL _ x=>x.lt k
 | .ca _ l=>ab.cj k l
 | .sa _ p _=>Nat.blt p k
section
variable {e aw:Env} {k:Nat}
theorem tT(h:bM k e aw): ∀{rs:List aU} {l:List ab},ab.cj k l=true→fS aw rs l=fS e rs l
 |[],_,_=>by simp[fS]
 |_::_,[],_=>by simp[fS]
 |r::rs,x::xs,hx=>by
  simp only[ab.cj,Bool.and_eq_true]at hx;simp only[fS,tF h hx.1,tT h hx.2]
theorem zN(h:bM k e aw){o:Option ab}(ao:ab.cj k o.toList=true):mn aw o=mn e o:=by
 cases o with
 |none=>rfl
 |some x=>
  simp only[Option.toList,ab.cj,Bool.and_true]at ao;simp only[mn,qu h ao]
theorem KT(h:bM k e aw): ∀{rs:List aU} {l m:List ab},ab.cj k l=true→ab.cj k m=true→jN aw rs l m=jN e rs l m
 |[r],[x],[y],an,hm=>by
  simp only[ab.cj,Bool.and_eq_true]at an hm;simp only[jN,e7 h an.1,e7 h hm.1]
 |r::s::rs,x::xs,y::ys,an,hm=>by
  simp only[ab.cj,Bool.and_eq_true]at an hm
  have:=KT h (rs:=s::rs) an.2 hm.2
  cases xs<;>cases ys<;>simp only[jN,e7 h an.1,e7 h hm.1,this]
 |[r],x::kc::xs,y::ys,an,hm=>by
  simp only[ab.cj,Bool.and_eq_true]at an hm;simp only[jN,e7 h an.1,e7 h hm.1]
 |[r],[x],y::qn::ys,an,hm=>by
  simp only[ab.cj,Bool.and_eq_true]at an hm;simp only[jN,e7 h an.1,e7 h hm.1]
 |[],_,_,_,_=>by simp[jN]
 |_::_,[],_,_,_=>by simp[jN]
 |_::_,_::_,[],_,_=>by simp[jN]
theorem KU(h:bM k e aw){c:bC}: ∀{l:List ab},ab.cj k l=true→mo aw c l=mo e c l
 |[],_=>rfl
 |x::r,an=>by
  simp only[ab.cj,Bool.and_eq_true]at an;simp only[mo,tF h an.1,KU h an.2]
theorem KV(h:bM k e aw){r:aU}: ∀{l:List ab} {n:Nat},ab.cj k l=true→qy aw r l n=qy e r l n
 |[],_,_=>rfl
 |[x],_,an=>by
  simp only[ab.cj,Bool.and_eq_true]at an;simp only[qy,e7 h an.1]
 |x::y::l,n,an=>by
  simp only[ab.cj,Bool.and_eq_true]at an
  have:=KV h (l:=y::l) (n:=n-1) (r:=r) (by simp only[ab.cj,Bool.and_eq_true];exact an.2)
  simp only[qy,e7 h an.1,this]
theorem Tt(M:List bc)(h:bM k e aw){x:bG}(hx:x.lt k=true):x.den M aw=x.den M e:=by
 cases x with
 |pj r x=>simp only[bG.den,tF h (x:=x) hx]
 |f1 f x=>simp only[bG.den,e7 h (x:=x) hx]
 |f2 f x y=>
  simp only[bG.lt,Bool.and_eq_true]at hx;simp only[bG.den,e7 h hx.1,e7 h hx.2]
 |eC c x lo hi=>
  simp only[bG.lt,Bool.and_eq_true]at hx;simp only[bG.den,e7 h hx.1,zN h hx.2.1,zN h hx.2.2]
 |r9 x lo hi=>
  simp only[bG.lt,Bool.and_eq_true]at hx;simp only[bG.den,e7 h hx.1,zN h hx.2.1,zN h hx.2.2]
 |zK r g x y=>
  simp only[bG.lt,Bool.and_eq_true]at hx;simp only[bG.den,e7 h hx.1,tF h hx.2.1,tF h hx.2.2]
 |wK n rs l m=>
  simp only[bG.lt,Bool.and_eq_true]at hx;simp only[bG.den,KT h hx.1 hx.2]
 |tK c l=>simp only[bG.den,KU h (l:=l) hx]
 |zL c x=>simp only[bG.den,e7 h (x:=x) hx]
 |up c l i x=>
  simp only[bG.lt,Bool.and_eq_true]at hx;simp only[bG.den,e7 h hx.1,qu h hx.2.1,tF h hx.2.2]
 |nth r l i=>
  simp only[bG.lt,Bool.and_eq_true]at hx;simp only[bG.den,KV h hx.1,qu h hx.2]
 |ca j l=>simp only[bG.den,tT h (l:=l) hx]
 |sa rs p i=>simp only[bG.den,h p (eF hx)]
end
end Go.aG
namespace Go.aG
open Go
section
variable {P:Program} {G:aY} {o:Oper} {s:aJ}
theorem cE.sub{v bo:az}(h:cE P G o s v)(ah:Sub v bo):cE P G o s bo:=fun E a w β ro ae=>by
 obtain⟨c,aa,af⟩:=h E a w β ro ae
 exact⟨c,aa,ah _ _ _ _ _ _ af⟩
def Ez(op:BinOp)(k bj:IntKind):Bool:=
 match op with
 | .add=>decide (k=bj)
 | .sub=>decide (k=bj)
 | .mul=>decide (k=bj)
 | .quo=>decide (k=bj)
 | .rem=>decide (k=bj)
 | .and=>decide (k=bj)
 | .or=>decide (k=bj)
 | .xor=>decide (k=bj)
 | .shl=>true
 | .shr=>true
 |_=>false
def tU:BinOp→Bool
 | .eql=>true
 | .neq=>true
 | .lss=>true
 | .leq=>true
 | .gtr=>true
 | .geq=>true
 |_=>false
theorem Tu{op:BinOp}{b4 ty:TypeId}{x y:Operand}{k bj:IntKind}{a b:Int}(ao:o.op= .binOp op b4 x y ty)(hx:aE G s x= .au (.v (.int k a)))(ax:aE G s y= .au (.v (.int bj b)))(h:Ez op k bj=true)(hn:zJ op b):
 cE P G o s (.au (.v (.int k (bK op k a b)))):=by
 cases op<;>simp only[Ez,Bool.false_eq_true,decide_eq_true_eq]at h
 case add=>subst h;exact nd _ b4 ty x y ao hx ax (by simp[iY,bK])
 case sub=>subst h;exact nd _ b4 ty x y ao hx ax (by simp[iY,bK])
 case mul=>subst h;exact nd _ b4 ty x y ao hx ax (by simp[iY,bK])
 case quo=>subst h;exact nd _ b4 ty x y ao hx ax (by have: ¬b=0:=hn;simp[iY,bK,this])
 case rem=>subst h;exact nd _ b4 ty x y ao hx ax (by have: ¬b=0:=hn;simp[iY,bK,this])
 case and=>subst h;exact tB b4 ty x y ao hx ax fun w=>by simp[binOp,Op.intBits,bK,aG.mE]
 case or=>subst h;exact tB b4 ty x y ao hx ax fun w=>by simp[binOp,Op.intBits,bK,aG.l6]
 case xor=>subst h;exact tB b4 ty x y ao hx ax fun w=>by simp[binOp,Op.intBits,bK,aG.nU]
 case shl=>exact nd _ b4 ty x y ao hx ax (by have hn:0≤b:=hn;have: ¬b<0:=(by omega);simp[iY,bK,this])
 case shr=>exact nd _ b4 ty x y ao hx ax (by have hn:0≤b:=hn;have: ¬b<0:=(by omega);simp[iY,bK,this])
theorem Tv{op:BinOp}{b4 ty:TypeId}{x y:Operand}{k:IntKind}{a b:Int}(ao:o.op= .binOp op b4 x y ty)(hx:aE G s x= .au (.v (.int k a)))(ax:aE G s y= .au (.v (.int k b)))(h:tU op=true):
 cE P G o s (.au (.v (.bool (wJ op a b)))):=by
 cases op<;>simp only[tU,Bool.false_eq_true]at h
 all_goals exact nd _ b4 ty x y ao hx ax (by simp[iY,y7,wJ])
theorem Tw{op:BinOp}{b4 ty:TypeId}{x y:Operand}{a b:ByteArray}(ao:o.op= .binOp op b4 x y ty)(hx:aE G s x= .au (.v (.string a)))(ax:aE G s y= .au (.v (.string b)))(h:tU op=true):
 cE P G o s (.au (.v (.bool (bm op a b)))):=by
 cases op<;>simp only[tU,Bool.false_eq_true]at h
 all_goals exact nd _ b4 ty x y ao hx ax (by simp[iY,bm])
def wR(G:aY)(s:aJ)(o:Option Operand)(z:Option Int):Prop:=
 match o,z with
 |none,none=>True
 |some y,some z=>∃k,aE G s y= .au (.v (.int k z))
 |_,_=>False
theorem KW(i:bC)(ls:List (fN i)){t:TypeId}{x:Operand}{lo hi:Option Operand}{nz kH:Option Int}(ao:o.op= .slice t x lo hi none)(aB:iZ P t=some (cO i))(hx:aE G s x= .au (.li i ls))(aC:wR G s lo nz)(a6:wR G s hi kH)
 (hn:eE ls.length nz kH):ld P G o s (.au (.li i (KL ls nz kH))):=by
 cases lo with
 |none=>
  cases nz with
  |some _=>exact aC.elim
  |none=>
  cases hi with
  |none=>
   cases kH with
   |some _=>exact a6.elim
   |none=>
   have:=zG i ls (l:=0) (h:=ls.length) ao aB hx (.inl ⟨rfl,rfl⟩) (.inl ⟨rfl,rfl⟩) (Nat.zero_le _) (Nat.le_refl _)
   rw[List.take_length,List.drop_zero]at this;exact this
  |some y=>
   cases kH with
   |none=>exact a6.elim
   |some h=>
   obtain⟨k,ax⟩:=a6
   have hn:0≤h∧h≤(ls.length:Int):=hn
   obtain⟨n,rfl⟩: ∃n:Nat,h=(n:Int):=⟨h.toNat,by omega⟩
   have:=zG i ls (l:=0) (h:=n) ao aB hx (.inl ⟨rfl,rfl⟩) (.inr ⟨y,k,rfl,ax⟩) (Nat.zero_le _) (by omega)
   rw[List.drop_zero]at this;exact this
 |some y=>
  cases nz with
  |none=>exact aC.elim
  |some a=>
  obtain⟨k,ax⟩:=aC
  cases hi with
  |none=>
   cases kH with
   |some _=>exact a6.elim
   |none=>
   have hn:0≤a∧a≤(ls.length:Int):=hn
   obtain⟨n,rfl⟩: ∃n:Nat,a=(n:Int):=⟨a.toNat,by omega⟩
   have:=zG i ls (l:=n) (h:=ls.length) ao aB hx (.inr ⟨y,k,rfl,ax⟩) (.inl ⟨rfl,rfl⟩) (by omega) (Nat.le_refl _)
   rw[List.take_length]at this;exact this
  |some pt=>
   cases kH with
   |none=>exact a6.elim
   |some h=>
   obtain⟨hb,EA⟩:=a6
   have hn:0≤a∧a≤h∧h≤(ls.length:Int):=hn
   obtain⟨n,rfl⟩: ∃n:Nat,a=(n:Int):=⟨a.toNat,by omega⟩
   obtain⟨m,rfl⟩: ∃n:Nat,h=(n:Int):=⟨h.toNat,by omega⟩
   exact zG i ls (l:=n) (h:=m) ao aB hx (.inr ⟨y,k,rfl,ax⟩) (.inr ⟨pt,hb,rfl,EA⟩) (by omega) (by omega)
theorem Tx(b:ByteArray){t:TypeId}{x:Operand}{lo hi:Option Operand}{nz kH:Option Int}(ao:o.op= .slice t x lo hi none)(aB:P.underlying t=some .string)(hx:aE G s x= .au (.v (.string b)))(aC:wR G s lo nz)(a6:wR G s hi kH)
 (hn:eE b.size nz kH):cE P G o s (.au (.v (.string (bh b nz kH)))):=by
 cases lo with
 |none=>
  cases nz with
  |some _=>exact aC.elim
  |none=>
  cases hi with
  |none=>
   cases kH with
   |some _=>exact a6.elim
   |none=>exact zo t x none none ao aB hx (l:=0) (h:=b.size) (.inl ⟨rfl,rfl⟩) (.inl ⟨rfl,rfl⟩) (Nat.zero_le _) (Nat.le_refl _)
  |some y=>
   cases kH with
   |none=>exact a6.elim
   |some h=>
   obtain⟨k,ax⟩:=a6
   have hn:0≤h∧h≤(b.size:Int):=hn
   obtain⟨n,rfl⟩: ∃n:Nat,h=(n:Int):=⟨h.toNat,by omega⟩
   exact zo t x none _ ao aB hx (l:=0) (h:=n) (.inl ⟨rfl,rfl⟩) (.inr ⟨y,k,rfl,ax⟩) (Nat.zero_le _) (by omega)
 |some y=>
  cases nz with
  |none=>exact aC.elim
  |some a=>
  obtain⟨k,ax⟩:=aC
  cases hi with
  |none=>
   cases kH with
   |some _=>exact a6.elim
   |none=>
   have hn:0≤a∧a≤(b.size:Int):=hn
   obtain⟨n,rfl⟩: ∃n:Nat,a=(n:Int):=⟨a.toNat,by omega⟩
   exact zo t x _ none ao aB hx (l:=n) (h:=b.size) (.inr ⟨y,k,rfl,ax⟩) (.inl ⟨rfl,rfl⟩) (by omega) (Nat.le_refl _)
  |some pt=>
   cases kH with
   |none=>exact a6.elim
   |some h=>
   obtain⟨hb,EA⟩:=a6
   have hn:0≤a∧a≤h∧h≤(b.size:Int):=hn
   obtain⟨n,rfl⟩: ∃n:Nat,a=(n:Int):=⟨a.toNat,by omega⟩
   obtain⟨m,rfl⟩: ∃n:Nat,h=(n:Int):=⟨h.toNat,by omega⟩
   exact zo t x _ _ ao aB hx (l:=n) (h:=m) (.inr ⟨y,k,rfl,ax⟩) (.inr ⟨pt,hb,rfl,EA⟩) (by omega) (by omega)
end
def zO(P:Program)(t:TypeId):Option aU:=
 match P.underlying t with
 |some (.int k)=>some (.int k)
 |some .bool=>some .bool
 |some .string=>some .str
 |_=>none
def nA(P:Program):Nat→Nat→List Field→Option (List aU)
 |0,_,_=>none
 |_+1,_,[]=>some []
 |d+1,k,f::fs=>
  if f.name= "_" ||f.offset != k then none
  else match lC P f.type with
   |some gs=>match P.info? f.type with
    |some inf=>match nA P d 0 gs,nA P d (k+inf.size) fs with
     |some a,some b=>match Nat.beq a.length inf.size with
      |true=>some (a++b)
      |false=>none
     |_,_=>none
    |none=>none
   |none=>match zO P f.type with
    |some r=>match nA P d (k+1) fs with
     |some l=>some (r::l)
     |none=>none
    |none=>none
def qB:(r:aU)→r.den→Value
 | .int k,n=>.int k n
 | .bool,b=>.bool b
 | .str,x=>.string x
 |_,_=>undef
def aU.cmp:aU→Bool
 | .int _=>true
 | .bool=>true
 | .str=>true
 |_=>false
def wS(d:aS):Value:=qB d.r d.v
def lS:List aS→List aS→Bool
 |d::ds,c::cs=>pk d.r d.v (c.as d.r)&&lS ds cs
 |_,_=>true
theorem Ty{P:Program}{t:TypeId}{r:aU}(h:zO P t=some r)(x y:r.den):o2 P t (qB r x)=true∧lB (qB r x) (qB r y)=some (pk r x y):=by
 unfold zO at h
 split at h
 ·rename_i k hu;cases h;simp[qB,o2,hu,lB,pk]
 ·rename_i hu;cases h;simp[qB,o2,hu,lB,pk]
 ·rename_i hu;cases h;simp[qB,o2,hu,lB,pk]
 ·cases h
theorem KX: ∀{a c:List aS} (b d:List aS),a.length=c.length→lS (a++b) (c++d)=(lS a c&&lS b d)
 |[],[],_,_,_=>by simp[lS]
 |x::a,y::c,b,d,h=>by
  simp only[List.cons_append,lS,KX (a:=a) (c:=c) b d (by simpa using h),Bool.and_assoc]
 |[],_::_,_,_,h=>by cases h
 |_::_,[],_,_,h=>by cases h
theorem zP{P:Program}: ∀(d k:Nat) (fs:List Field) (rs:List aU),nA P d k fs=some rs→∀(as cC:List aS),as.map aS.r=rs→cC.map aS.r=rs→n7 P d k fs (as.map wS) (cC.map wS)=some (lS as cC)
 |0,_,_,_,h,_,_,_,_=>by cases h
 |d+1,k,[],rs,h,as,cC,aI,ad=>by
  simp only[nA,Option.some.injEq]at h;subst h
  cases la aI
  cases la ad
  rfl
 |d+1,k,f::fs,rs,h,as,cC,aI,ad=>by
  simp only[nA]at h;simp only[n7]
  split at h
  ·cases h
  ·rename_i hc
   rw[if_neg hc]
   cases ah:lC P f.type with
   |some gs=>
    rw[ah]at h;simp only at h⊢
    cases hi:P.info? f.type with
    |none=>rw[hi]at h;cases h
    |some inf=>
     rw[hi]at h;simp only at h⊢
     split at h
     ·rename_i u v aa af
      split at h
      ·rename_i an
       simp only[Option.some.injEq]at h;subst h
       have an:=Nat.eq_of_beq_eq_true an
       have KY:(as.take inf.size).map aS.r=u:=by rw[List.map_take,aI,←an,List.take_left]
       have Tz:(as.drop inf.size).map aS.r=v:=by rw[List.map_drop,aI,←an,List.drop_left]
       have tb:(cC.take inf.size).map aS.r=u:=by rw[List.map_take,ad,←an,List.take_left]
       have TA:(cC.drop inf.size).map aS.r=v:=by rw[List.map_drop,ad,←an,List.drop_left]
       rw[←List.map_take,←List.map_take,←List.map_drop,←List.map_drop,zP d 0 gs u aa _ _ KY tb,zP d _ fs v af _ _ Tz TA];simp only[Option.some.injEq];rw[←KX _ _ (by have aa:=congrArg List.length KY;have af:=congrArg List.length tb;simp only[List.length_map]at aa af;omega),List.take_append_drop,List.take_append_drop]
      ·cases h
     ·cases h
   |none=>
    rw[ah]at h;simp only at h⊢
    split at h
    ·rename_i r ae
     split at h
     ·rename_i l an
      simp only[Option.some.injEq]at h;subst h;obtain⟨a,Yu,rfl,KZ,BT⟩:=kE aI;obtain⟨b,Yv,rfl,hQ,od⟩:=kE ad;obtain⟨Yw,bb⟩:=a;obtain⟨Yx,l4⟩:=b;simp only at KZ hQ;subst KZ;subst hQ;obtain⟨g1,g2⟩:=Ty ae bb l4;simp only[List.map_cons,wS,g1,g2,if_true,lS,cA];rw[zP d _ fs l an _ _ BT od]
     ·cases h
    ·cases h
theorem zQ{P:Program}: ∀(d k:Nat) (fs:List Field) (rs:List aU),nA P d k fs=some rs→∀r∈rs,r.cmp=true
 |0,_,_,_,h,_,_=>by cases h
 |d+1,k,[],rs,h,r,ae=>by
  simp only[nA,Option.some.injEq]at h;subst h;cases ae
 |d+1,k,f::fs,rs,h,r,ae=>by
  simp only[nA]at h
  split at h
  ·cases h
  ·cases ah:lC P f.type with
   |some gs=>
    rw[ah]at h;simp only at h
    cases hi:P.info? f.type with
    |none=>rw[hi]at h;cases h
    |some inf=>
     rw[hi]at h;simp only at h
     split at h
     ·rename_i u v aa af
      split at h
      ·simp only[Option.some.injEq]at h
       subst h
       rcases List.mem_append.1 ae with q|q
       ·exact zQ d 0 gs u aa r q
       ·exact zQ d _ fs v af r q
      ·cases h
     ·cases h
   |none=>
    rw[ah]at h;simp only at h
    split at h
    ·rename_i dW dC
     split at h
     ·rename_i l an
      simp only[Option.some.injEq]at h;subst h
      rcases List.mem_cons.1 ae with rfl|q
      ·unfold zO at dC
       split at dC<;>first|(cases dC;rfl)|cases dC
      ·exact zQ d _ fs l an r q
     ·cases h
    ·cases h
theorem TB{r:aU}(h:r.cmp=true)(x:r.den):fz r x= .v (qB r x):=by
 cases r<;>first|rfl|cases h
theorem wT{G:aY}{e:Env}: ∀{rs:List aU} {l:List ab},gX rs l=true→(∀r∈rs,r.cmp=true)→gD (ab.bF G e l)=some ((hg e rs l).map wS)
 |[],[],_,_=>rfl
 |[],_::_,h,_=>by cases h
 |_::_,[],h,_=>by cases h
 |r::rs,x::xs,h,hc=>by
  simp only[gX,Bool.and_eq_true]at h
  have aa:x.den G e= .au (fz r (x.aD e r)):=Tn h.1 (by have:=hc r (by simp);cases r<;>first|rfl|cases this)
  simp only[ab.bF,hg,aa,TB (hc r (by simp)),gD,wT h.2 fun r ae=>hc r (by simp[ae]),List.map_cons,wS]
theorem K0{e:Env}: ∀{rs:List aU} {l m:List ab},gX rs l=true→gX rs m=true→jN e rs l m=lS (hg e rs l) (hg e rs m)
 |[],[],[],_,_=>rfl
 |[],_::_,_,h,_=>by cases h
 |[],[],_::_,_,h=>by cases h
 |_::_,[],_,h,_=>by cases h
 |_::_,_::_,[],_,h=>by cases h
 |[r],[x],[y],_,_=>by simp[jN,hg,lS,cA]
 |[r],x::kc::xs,_::_,h,_=>by simp[gX]at h
 |[r],[x],y::qn::ys,_,h=>by simp[gX]at h
 |r::s::rs,x::xs,y::ys,h,h'=>by
  simp only[gX,Bool.and_eq_true]at h h'
  have:=K0 (e:=e) (rs:=s::rs) (l:=xs) (m:=ys) h.2 h'.2
  cases xs with
  |nil=>simp[gX]at h
  |cons kc xs=>
   cases ys with
   |nil=>simp[gX]at h'
   |cons qn ys=>
    have ar:lS (hg e (r::s::rs) (x::kc::xs)) (hg e (r::s::rs) (y::qn::ys))=(pk r (x.aD e r) (y.aD e r)&&lS (hg e (s::rs) (kc::xs)) (hg e (s::rs) (qn::ys))):=by
     simp only[hg,lS,cA]
    rw[ar,←this];simp only[jN]
    cases pk r (x.aD e r) (y.aD e r)<;>rfl
section
variable {P:Program} {G:aY} {o:Oper} {N B:Nat} {e:Env} {S:aq}
theorem K1(hf: ∀c∈S.g,c.ok e){n:Bool}{op:BinOp}(tV:op=bif n then .neq else .eql){b4 ty:TypeId}{x y:Operand}(ao:o.op= .binOp op b4 x y ty){fs:List Field}{rs:List aU}(h:lC P b4=some fs)(ae:nA P 64 0 fs=some rs){l m:List ab}(hx:S.aX N x= .cm l)(ax:S.aX N y= .cm m)
 (an:gX rs l=true)(hm:gX rs m=true):cE P G o (S.den G N B e) (.au (.v (.bool (bif n then !jN e rs l m else jN e rs l m)))):=by
 have hc:=zQ 64 0 fs rs ae
 have gf:aE G (S.den G N B e) x= .agg (ab.bF G e l):=by rw[bw hf,hx];rfl
 have lg:aE G (S.den G N B e) y= .agg (ab.bF G e m):=by rw[bw hf,ax];rfl
 have ad:=zP 64 0 fs rs ae _ _ (zI G e an).1 (zI G e hm).1
 rw[←K0 an hm]at ad
 cases n with
 |true=>
  subst tV;exact JD b4 ty x y ao h gf lg (wT an hc) (wT hm hc) ad
 |false=>
  subst tV;exact JC b4 ty x y ao h gf lg (wT an hc) (wT hm hc) ad
end
end Go.aG
namespace Go.aG
open Go
structure dq where
 xs:List bG
 ns:List fA
 v:ab
def ab.rt:ab→Option aU
 | .bb r _=>match r.one with
  |true=>some r
  |false=>none
 | .fd _ _ _ r=>match r.one with
  |true=>some r
  |false=>none
 | .cs (.int k _)=>some (.int k)
 | .cs (.bool _)=>some .bool
 | .cs (.string _)=>some .str
 |_=>none
theorem wU(r:aU):iH r r=true:=decide_eq_true rfl
theorem EB{x:ab}{r:aU}(h:x.rt=some r):x.fl r=true∧x.isNil=false:=by
 unfold ab.rt at h
 split at h
 ·split at h
  ·rename_i aa;cases h;exact⟨by simp[ab.fl,wU,aa],rfl⟩
  ·cases h
 ·split at h
  ·rename_i aa;cases h;exact⟨by simp[ab.fl,wU,aa],rfl⟩
  ·cases h
 ·cases h;exact⟨by simp[ab.fl,wU],rfl⟩
 ·cases h;exact⟨by simp[ab.fl,wU],rfl⟩
 ·cases h;exact⟨by simp[ab.fl,wU],rfl⟩
 ·cases h
theorem gg{G:aY}{e:Env}{x:ab}{r:aU}(h:x.rt=some r):x.den G e= .au (fz r (x.aD e r)):=En (EB h).1 (EB h).2
theorem iL{G:aY}{e:Env}{x:ab}{k:IntKind}(h:x.rt=some (.int k)):x.den G e= .au (.v (.int k (x.aD e (.int k)))):=gg h
theorem lh{e:Env}{x:ab}{k:IntKind}(h:x.rt=some (.int k)):b1 (x.dyn e)=x.aD e (.int k):=by
 obtain⟨aa,af⟩:=EB h
 unfold ab.aD
 rw[KJ af]
 cases x with
 |bb q i=>
  simp only[ab.fl,Bool.and_eq_true]at aa
  cases hT aa.1
  simp only[ab.dyn,cA,b1]
 |fd c i j q=>
  simp only[ab.fl,Bool.and_eq_true]at aa
  cases hT aa.1
  simp only[ab.dyn,cA,b1]
 |cs v=>
  cases v with
  |int bj n=>
   cases hT aa
   simp only[ab.dyn,cA,b1]
  |bool b=>cases hT aa
  |string s=>cases hT aa
  |slice a n c=>unfold ab.fl at aa;split at aa<;>first|cases aa|simp_all
  |_=>cases aa
 |_=>cases aa
def isLen(f:dc)(x:ab)(n:Nat):List bJ→Bool
 |[]=>false
 | .d1 i g y::r=>match Nat.beq i n&&(decide (g=f)&&wO y x)with
  |true=>true
  |false=>isLen f x n r
 |_::r=>isLen f x n r
theorem tW{f:dc}{x:ab}{n:Nat}{e:Env}: ∀{l:List bJ},isLen f x n l=true→(∀c∈l,c.ok e)→Env.at e n=⟨f.c,f.den (x.aD e f.a)⟩
 | .d1 i g y::r,h,hc=>by
  simp only[isLen]at h
  split at h
  ·rename_i ad
   simp only[Bool.and_eq_true,decide_eq_true_eq]at ad
   have:=hc (.d1 i g y) (by simp)
   simp only[bJ.ok]at this;rw[←Nat.eq_of_beq_eq_true ad.1,this,ad.2.1,Ev ad.2.2]
  ·exact tW h fun c hm=>hc c (by simp[hm])
 | .d2 _ _ _ _::r,h,hc=>tW (l:=r) h fun c hm=>hc c (by simp[hm])
 | .rg _ _::r,h,hc=>tW (l:=r) h fun c hm=>hc c (by simp[hm])
 | .dp _ _::r,h,hc=>tW (l:=r) h fun c hm=>hc c (by simp[hm])
def K2(f:dc)(x:ab)(i:Nat)(all:List bJ):bJ→Bool
 | .rg j (.bb (.int .i64) n)=>Nat.beq i j&&isLen f x n all
 |_=>false
def zR(f:dc)(x:ab)(i:Nat)(all:List bJ):List bJ→Bool
 |[]=>false
 |c::r=>match K2 f x i all c with
  |true=>true
  |false=>zR f x i all r
theorem EC{f:dc}{x:ab}{i:Nat}{e:Env}{all:List bJ}{L:Int}(fm: ∀n,isLen f x n all=true→Env.at e n=⟨.int .i64,L⟩): ∀{l:List bJ},zR f x i all l=true→(∀c∈l,c.ok e)→0≤b1 (Env.at e i)∧b1 (Env.at e i)<L
 |c::r,h,hc=>by
  simp only[zR]at h
  split at h
  ·rename_i ad
   unfold K2 at ad
   split at ad
   ·rename_i j n
    simp only[Bool.and_eq_true]at ad
    have aa:=hc (.rg j (.bb (.int .i64) n)) (by simp)
    simp only[bJ.ok,ab.dyn,fm n ad.2,cA,b1]at aa;rw[←Nat.eq_of_beq_eq_true ad.1]at aa;exact aa
   ·cases ad
  ·exact EC fm h fun c hm=>hc c (by simp[hm])
def wV(len j:Nat):List bJ→Bool
 | .rg i (.cs (.int _ (.ofNat m)))::r=>(Nat.beq i j&&Nat.ble m len)||wV len j r
 |_::r=>wV len j r
 |[]=>false
theorem ED{len j:Nat}{e:Env}: ∀{l:List bJ},wV len j l=true→(∀c∈l,c.ok e)→0≤b1 (Env.at e j)∧b1 (Env.at e j)<(len:Int)
 |[],h,_=>by cases h
 |c::r,h,hc=>by
  unfold wV at h
  split at h
  ·rename_i i k m _ heq
   cases heq;simp only[Bool.or_eq_true,Bool.and_eq_true]at h
   rcases h with⟨aa,af⟩|h
   ·have ar:0≤b1 (Env.at e i)∧b1 (Env.at e i)<(m:Int):=hc (.rg i (.cs (.int k (.ofNat m)))) (by simp)
    rw[←Nat.eq_of_beq_eq_true aa]
    have:=Nat.le_of_ble_eq_true af
    omega
   ·exact ED h fun c hm=>hc c (by simp[hm])
  ·rename_i dW _ heq
   cases heq;exact ED h fun c hm=>hc c (by simp[hm])
  ·rename_i heq;cases heq
def tX(g:List bJ)(len:Nat)(i:ab):List fA:=
 match i with
 | .bb (.int _) j=>match wV len j g with
  |true=>[]
  |false=>[.nth len i]
 |_=>[.nth len i]
theorem zS{M:List bc}{g:List bJ}{len:Nat}{i:ab}{e:Env}(ag: ∀c∈g,c.ok e)(h: ∀n∈tX g len i,n.ok M e):0≤b1 (i.dyn e)∧b1 (i.dyn e)<(len:Int):=by
 unfold tX at h
 split at h
 ·rename_i k j
  split at h
  ·rename_i ad
   have:=ED ad ag
   simp only[ab.dyn]
   by_cases ae:(Env.at e j).r= .int k
   ·rw[zw ae];exact this
   ·have aP:b1 ⟨.int k,(Env.at e j).as (.int k)⟩=0:=by
     unfold aS.as
     split
     ·rename_i aV _;exact absurd aV ae
     ·rfl
    rw[aP];omega
  ·exact h _ (List.mem_singleton.2 rfl)
 ·exact h _ (List.mem_singleton.2 rfl)
def nB(g:List bJ)(f:dc)(q:bW)(x i:ab):List fA:=
 match i with
 | .bb (.int _) j=>match zR f x j g g with
  |true=>[]
  |false=>[.f2 0 q x i]
 |_=>[.f2 0 q x i]
theorem tY{M:List bc}{g:List bJ}{c:bC}{k:IntKind}{x i:ab}{e:Env}(ag: ∀c∈g,c.ok e)(hi:i.rt=some (.int k))(h: ∀n∈nB g (.hU c) (.jh c k) x i,n.ok M e):
 0≤i.aD e (.int k)∧i.aD e (.int k)<(List.length (x.aD e (.li c)):Int):=by
 unfold nB at h
 split at h
 ·rename_i bj j
  split at h
  ·rename_i ad
   have:=EC (f:=.hU c) (fun n hn=>tW hn ag) ad ag
   rw[←lh hi];simp only[ab.dyn]
   have aj:bj=k:=by simp only[ab.rt,aU.one]at hi;cases hi;rfl
   subst aj
   by_cases ae:(Env.at e j).r= .int bj
   ·rw[zw ae];exact this
   ·have aP:b1 ⟨.int bj,(Env.at e j).as (.int bj)⟩=0:=by
     unfold aS.as
     split
     ·rename_i aV _;exact absurd aV ae
     ·rfl
    rw[aP];exact⟨Int.le_refl _,Int.lt_of_le_of_lt this.1 this.2⟩
  ·exact h _ (List.mem_singleton.2 rfl)
 ·exact h _ (List.mem_singleton.2 rfl)
theorem TC{M:List bc}{g:List bJ}{k:IntKind}{x i:ab}{e:Env}(ag: ∀c∈g,c.ok e)(hi:i.rt=some (.int k))(h: ∀n∈nB g .mm (.ph k) x i,n.ok M e):
 0≤i.aD e (.int k)∧i.aD e (.int k)<(ByteArray.size (x.aD e .str):Int):=by
 unfold nB at h
 split at h
 ·rename_i bj j
  split at h
  ·rename_i ad
   have:=EC (f:=.mm) (fun n hn=>tW hn ag) ad ag
   rw[←lh hi];simp only[ab.dyn]
   have aj:bj=k:=by simp only[ab.rt,aU.one]at hi;cases hi;rfl
   subst aj
   by_cases ae:(Env.at e j).r= .int bj
   ·rw[zw ae];exact this
   ·have aP:b1 ⟨.int bj,(Env.at e j).as (.int bj)⟩=0:=by
     unfold aS.as
     split
     ·rename_i aV _;exact absurd aV ae
     ·rfl
    rw[aP];exact⟨Int.le_refl _,Int.lt_of_le_of_lt this.1 this.2⟩
  ·exact h _ (List.mem_singleton.2 rfl)
 ·exact h _ (List.mem_singleton.2 rfl)
end Go.aG
namespace Go.aG
open Go
def jQ(h:List (Nat × bq)):ab→Bool
 | .bb _ _=>true
 | .fd _ _ _ _=>true
 | .cs _=>true
 | .ip _ _ _=>true
 | .fn _ _ _=>true
 | .de id _=>match c2 h id with
  |some (.cT _ _)=>true
  |_=>false
 | .ga id _ _ _=>match c2 h id with
  |some (.cT _ _)=>true
  |_=>false
 | .eH _ (some id) _=>match c2 h id with
  |some (.cT _ _)=>true
  |_=>false
 | .aL id=>match c2 h id with
  |some (.rw _ _ _)=>true
  |_=>false
 | .fY id _ _=>match c2 h id with
  |some (.rw _ _ _)=>true
  |_=>false
 |_=>false
def se(S:aq):ab→Option (List ab)
 | .de id off=>match c2 S.h id with
  |some (.cT _ l)=>some (l.drop off)
  |_=>none
 | .ip c i k=>some ((ib c i 0 (e3 c)).drop k)
 |_=>none
def pv(P:Program)(t:TypeId)(l:List ab):Option ab:=
 match kZ P t with
 |some n=>match Nat.ble n l.length&&Nat.ble 1 n with
  |true=>some (.cm (l.take n))
  |false=>none
 |none=>match scalar P t,l with
  |true,y::_=>some y
  |_,_=>none
def qC(S:aq):ab→Bool
 | .de id _=>match c2 S.h id with
  |some (.cT _ _)=>true
  |_=>false
 | .ga id _ _ _=>match c2 S.h id with
  |some (.cT _ _)=>true
  |_=>false
 | .ip _ _ _=>true
 | .fY id _ _=>match c2 S.h id with
  |some (.rw _ _ _)=>true
  |_=>false
 |_=>false
def tZ(k:Nat):ab→Option ab
 | .de id off=>some (.de id (off+k))
 | .ip c i j=>some (.ip c i (j+k))
 | .fY id x off=>some (.fY id x (off+k))
 | .ga id off x n=>some (.ga id (off+k) x n)
 |_=>none
def pw(place:Nat→Option (Nat × Nat)):List ab→List (Nat × ab)→Option (List ab)
 |l,[]=>some l
 |l,(i,v)::rest=>match place i with
  |some (off,size)=>match Nat.beq v.cells.length size&&Nat.ble (off+size) l.length with
   |true=>pw place (dH l off v.cells) rest
   |false=>none
  |none=>none
section
variable {P:Program} {G:aY} {o:Oper} {N B:Nat} {e:Env} {S:aq} {M:List bc}
theorem K3{h:List (Nat × bq)}{x:ab}(hx:jQ h x=true):dT (cv G e h) (x.den G e)=true∧ch (x.den G e)=[x.den G e]:=by
 cases x with
 |de id off=>
  simp only[jQ]at hx
  split at hx
  ·rename_i t l ag
   simp[ab.den,dT,et,ag,bq.den,ch]
  ·cases hx
 |ga id off x n=>
  simp only[jQ]at hx
  split at hx
  ·rename_i t l ag
   simp[ab.den,dT,et,ag,bq.den,ch]
  ·cases hx
 |aL id=>
  simp only[jQ]at hx
  split at hx
  ·rename_i t c y ag
   simp[ab.den,dT,et,ag,bq.den,ch]
  ·cases hx
 |fY id x off=>
  simp only[jQ]at hx
  split at hx
  ·rename_i t c y ag
   simp[ab.den,dT,et,ag,bq.den,ch]
  ·cases hx
 |cm l=>cases hx
 |tp l=>cases hx
 |ia id=>cases hx
 |e6 g b x=>cases hx
 |kF g off=>cases hx
 |top=>cases hx
 |cC k n=>cases hx
 |eH g id off=>
  cases id with
  |none=>cases hx
  |some id=>
   simp only[jQ]at hx
   split at hx
   ·rename_i t l ag
    simp only[ab.den]
    cases g.aD e .bool<;>simp[dT,et,ag,bq.den,ch]
   ·cases hx
 |_=>exact⟨rfl,rfl⟩
theorem ua{h:List (Nat × bq)}: ∀{l:List ab},l.all (jQ h)=true→(ab.bF G e l).all (dT (cv G e h))=true
 |[],_=>rfl
 |x::r,hx=>by
  simp only[List.all_cons,Bool.and_eq_true]at hx;simp only[ab.bF,List.all_cons,(K3 hx.1).1,ua hx.2,Bool.and_self]
theorem sf{h:List (Nat × bq)}{x:ab}(hx:x.cells.all (jQ h)=true):ch (x.den G e)=ab.bF G e x.cells:=by
 cases x with
 |cm l=>rfl
 |_=>
  simp only[ab.cells,List.all_cons,List.all_nil,Bool.and_true]at hx;simp only[(K3 hx).2,ab.cells,ab.bF]
theorem EE(k:Nat)(l:List ab):ab.bF G e (l.drop k)=(ab.bF G e l).drop k:=by rw[eg,eg,List.map_drop]
theorem lT(l:List ab):(ab.bF G e l).length=l.length:=by rw[eg,List.length_map]
theorem wW{p:ab}{l:List ab}(h:se S p=some l):eZ (S.den G N B e).heap (p.den G e)=some (ab.bF G e l):=by
 unfold se at h
 split at h
 ·split at h
  ·rename_i id off t eB ag
   cases h;simp only[aq.den,ab.den,eZ,et,ag,Option.map_some,bq.den];rw[eg,eg,List.map_drop]
  ·cases h
 ·rename_i c i k
  cases h;simp only[ab.den,eZ,Option.some.injEq];rw[EE,tH,List.map_drop]
 ·cases h
theorem K4{t:TypeId}{x:Operand}{l:List ab}{v:ab}(ao:o.op= .load t x)(hc:eZ (S.den G N B e).heap (aE G (S.den G N B e) x)=some (ab.bF G e l))(av:pv P t l=some v):cE P G o (S.den G N B e) (v.den G e):=by
 unfold pv at av
 split at av
 ·rename_i n hn
  split at av
  ·rename_i ad
   simp only[Bool.and_eq_true]at ad;cases av
   have:=Jb t x ao hn hc (by rw[lT];exact Nat.le_of_ble_eq_true ad.1) (Nat.le_of_ble_eq_true ad.2)
   simp only[ab.den];rw[eg]at this;rw[eg,List.map_take];exact this
  ·cases av
 ·split at av
  ·rename_i y r ah
   cases av;exact Dm t x ao ah hc
  ·cases av
theorem sg{p:ab}(h:qC S p=true):iX (S.den G N B e).heap (p.den G e)=true:=by
 unfold qC at h
 split at h
 ·split at h
  ·rename_i ag;simp[aq.den,ab.den,iX,et,ag,bq.den]
  ·cases h
 ·split at h
  ·rename_i ag;simp[aq.den,ab.den,iX,et,ag,bq.den]
  ·cases h
 ·rfl
 ·split at h
  ·rename_i ag;simp[aq.den,ab.den,iX,et,ag,bq.den]
  ·cases h
 ·cases h
theorem wX{k:Nat}{p q:ab}(h:tZ k p=some q):oW k (p.den G e)=q.den G e:=by
 unfold tZ at h
 split at h
 ·cases h;simp[ab.den,oW]
 ·cases h;simp[ab.den,oW,List.drop_drop,Nat.add_comm]
 ·cases h;simp[ab.den,oW]
 ·cases h;simp only[ab.den,oW,az.ptr.injEq,true_and];omega
 ·cases h
theorem zT{α β:Type}(f:α→β)(l:List α)(off:Nat)(vs:List α):(dH l off vs).map f=dH (l.map f) off (vs.map f):=by
 simp[dH,List.map_take,List.map_drop]
theorem zU{pl:Nat→Option (Nat × Nat)}{h:List (Nat × bq)}: ∀{ps:List (Nat × ab)} {l ds:List ab},(ps.all fun p=>p.2.cells.all (jQ h))=true→pw pl l ps=some ds→ja pl (ab.bF G e l) (ps.map fun p=>(p.1,p.2.den G e))=some (ab.bF G e ds)
 |[],l,ds,_,hf=>by
  simp only[pw,Option.some.injEq]at hf;subst hf;rfl
 |(i,v)::rest,l,ds,aI,hf=>by
  simp only[List.all_cons,Bool.and_eq_true]at aI;simp only[pw]at hf;simp only[List.map_cons,ja]
  split at hf
  ·rename_i off size ak
   split at hf
   ·rename_i ad
    simp only[Bool.and_eq_true]at ad
    have aa:=Nat.eq_of_beq_eq_true ad.1
    have af:=Nat.le_of_ble_eq_true ad.2
    have av:=sf (G:=G) (e:=e) aI.1
    simp only[ak,av,lT];rw[if_pos ⟨aa,af⟩]
    have:=zU aI.2 hf
    rw[eg]at this⊢;rw[zT]at this;rw[eg];exact this
   ·cases hf
  ·cases hf
def jl(P:Program)(G:aY)(N B:Nat)(M:List bc)(o:Oper)(S:aq)(r:dq):Prop:=
 ∀e,(∀c∈S.g,c.ok e)→(∀(j:Nat) (x:bG),r.xs[j]? =some x→Env.at e (S.k+j)=x.den M e)→(∀n∈r.ns,n.ok M e)→cE P G o (S.den G N B e) (r.v.den G e)
end
def EF(op:BinOp)(k bj:IntKind)(x y:ab):List fA:=
 match op with
 | .add=>[]
 | .sub=>[]
 | .mul=>[]
 | .and=>[]
 | .or=>[]
 | .xor=>[]
 | .quo=>match y with
  | .cs (.int _ n)=>match decide (n=0)with
   |false=>[]
   |true=>[.f2 0 (.ic op k bj) x y]
  |_=>[.f2 0 (.ic op k bj) x y]
 | .rem=>match y with
  | .cs (.int _ n)=>match decide (n=0)with
   |false=>[]
   |true=>[.f2 0 (.ic op k bj) x y]
  |_=>[.f2 0 (.ic op k bj) x y]
 |op=>match y with
  | .cs (.int _ n)=>match decide (0≤n)with
   |true=>[]
   |false=>[.f2 0 (.ic op k bj) x y]
  |_=>[.f2 0 (.ic op k bj) x y]
def EG(P:Program)(S:aq)(op:BinOp)(b4:TypeId)(x y:ab):Option dq:=
 match x.rt,y.rt with
 |some (.int k),some (.int bj)=>match Ez op k bj with
  |true=>some ⟨[.f2 (.ic op k bj) x y],EF op k bj x y,.bb (.int k) S.k⟩
  |false=>match tU op&&decide (bj=k)with
   |true=>some ⟨[.f2 (.nt op k) x y],[],.bb .bool S.k⟩
   |false=>none
 |some .str,some .str=>match tU op with
  |true=>some ⟨[.f2 (.tI op) x y],[],.bb .bool S.k⟩
  |false=>match op with
   | .add=>some ⟨[.f2 .qx x y],[.f2 0 .qx x y],.bb .str S.k⟩
   |_=>none
 |some .bool,some .bool=>match op,zp P b4 with
  | .eql,true=>some ⟨[.f2 (.qw false) x y],[],.bb .bool S.k⟩
  | .neq,true=>some ⟨[.f2 (.qw true) x y],[],.bb .bool S.k⟩
  |_,_=>none
 |_,_=>match x,y with
  | .cm l,.cm m=>match lC P b4 with
   |some fs=>match nA P 64 0 fs with
    |some rs=>match gX rs l&&gX rs m,op with
     |true,.eql=>some ⟨[.wK false rs l m],[],.bb .bool S.k⟩
     |true,.neq=>some ⟨[.wK true rs l m],[],.bb .bool S.k⟩
     |_,_=>none
    |none=>none
   |none=>none
  |p,.cs (.pointer none)=>match P.underlying b4,qC S p,op with
   |some (.pointer _),true,.eql=>some ⟨[],[],.cs (.bool false)⟩
   |some (.pointer _),true,.neq=>some ⟨[],[],.cs (.bool true)⟩
   |_,_,_=>none
  |_,_=>none
section
variable {P:Program} {G:aY} {o:Oper} {N B:Nat} {e:Env} {S:aq} {M:List bc}
theorem TD{e:Env}{f:bW}{x y:ab}{k:Nat}(h:Env.at e k=(bG.f2 f x y).den M e):(ab.bb f.c k).den G e= .au (fz f.c (f.den (x.aD e f.a) (y.aD e f.b))):=by
 simp only[ab.den,h,bG.den,cA]
theorem TE{e:Env}{f:dc}{x:ab}{k:Nat}(h:Env.at e k=(bG.f1 f x).den M e):(ab.bb f.c k).den G e= .au (fz f.c (f.den (x.aD e f.a))):=by
 simp only[ab.den,h,bG.den,cA]
theorem ou{s:aJ}{f:bW}{x y:ab}{k:Nat}(h:Env.at e k=(bG.f2 f x y).den M e)(ah:cE P G o s (.au (fz f.c (f.den (x.aD e f.a) (y.aD e f.b))))):cE P G o s ((ab.bb f.c k).den G e):=by
 rw[TD h];exact ah
theorem ov{s:aJ}{f:dc}{x:ab}{k:Nat}(h:Env.at e k=(bG.f1 f x).den M e)(ah:cE P G o s (.au (fz f.c (f.den (x.aD e f.a))))):cE P G o s ((ab.bb f.c k).den G e):=by
 rw[TE h];exact ah
theorem TF{op:BinOp}{k bj:IntKind}{x y:ab}(ax:y.rt=some (.int bj))(h: ∀n∈EF op k bj x y,n.ok M e):zJ op (y.aD e (.int bj)):=by
 have hc: ∀n hb,y= .cs (.int hb n)→y.aD e (.int bj)=n:=fun n hb aV=>by
  subst aV;simp only[ab.rt,Option.some.injEq,aU.int.injEq]at ax;subst ax;simp only[ab.aD,ab.fu,ab.dyn,cA]
 have ah: ∀zV,((∃q,zV=q)→fA.ok M e (.f2 0 (.ic zV k bj) x y)→zJ zV (y.aD e (.int bj))):=fun zV _ h=>h
 cases op<;>try exact trivial
 all_goals
  simp only[EF]at h
  split at h
  ·rename_i hb n
   have hn:=hc n hb rfl
   split at h
   ·rename_i hd
    rw[hn];simp only[decide_eq_false_iff_not,decide_eq_true_eq]at hd;exact hd
   ·exact h _ (List.mem_singleton.2 rfl)
  ·exact h _ (List.mem_singleton.2 rfl)
theorem TG{op:BinOp}{b4 ty:TypeId}{x y:Operand}{r:dq}(ao:o.op= .binOp op b4 x y ty)(h:EG P S op b4 (S.aX N x) (S.aX N y)=some r):jl P G N B M o S r:=fun e hf hx hn=>by
 unfold EG at h
 split at h
 ·rename_i k bj aa af
  have gf:aE G (S.den G N B e) x=_:=(bw hf x).trans (iL aa)
  have lg:aE G (S.den G N B e) y=_:=(bw hf y).trans (iL af)
  split at h
  ·rename_i aI
   cases h;exact ou (f:=.ic op k bj) (hx 0 _ rfl) (Tu ao gf lg aI (TF af hn))
  ·split at h
   ·rename_i hc
    cases h;simp only[Bool.and_eq_true,decide_eq_true_eq]at hc
    have aj:=hc.2
    subst aj;exact ou (f:=.nt op bj) (hx 0 _ rfl) (Tv ao gf lg hc.1)
   ·cases h
 ·rename_i aa af
  have gf:aE G (S.den G N B e) x=_:=(bw hf x).trans (gg aa)
  have lg:aE G (S.den G N B e) y=_:=(bw hf y).trans (gg af)
  split at h
  ·rename_i hc
   cases h;exact ou (f:=.tI op) (hx 0 _ rfl) (Tw ao gf lg hc)
  ·split at h
   ·cases h
    exact ou (f:=.qx) (hx 0 _ rfl) (Ss b4 ty x y ao gf lg (hn _ (List.mem_singleton.2 rfl)))
   ·cases h
 ·rename_i aa af
  have gf:aE G (S.den G N B e) x=_:=(bw hf x).trans (gg aa)
  have lg:aE G (S.den G N B e) y=_:=(bw hf y).trans (gg af)
  split at h
  ·rename_i aB
   cases h;exact ou (f:=.qw false) (hx 0 _ rfl) (Jv b4 ty x y ao (zq aB) gf lg)
  ·rename_i aB
   cases h;exact ou (f:=.qw true) (hx 0 _ rfl) (Jw b4 ty x y ao (zq aB) gf lg)
  ·cases h
 ·split at h
  ·rename_i l m an hm
   split at h
   ·rename_i fs tD
    split at h
    ·rename_i rs mg
     split at h
     ·rename_i ad
      cases h;simp only[Bool.and_eq_true]at ad
      have:=K1 (G:=G) (n:=false) (B:=B) (e:=e) hf rfl ao tD mg an hm ad.1 ad.2
      have aP:Env.at e S.k=_:=hx 0 _ rfl
      simp only[ab.den,aP,bG.den,cA,fz,kD];exact this
     ·rename_i ad
      cases h;simp only[Bool.and_eq_true]at ad
      have:=K1 (G:=G) (n:=true) (B:=B) (e:=e) hf rfl ao tD mg an hm ad.1 ad.2
      have aP:Env.at e S.k=_:=hx 0 _ rfl
      simp only[ab.den,aP,bG.den,cA,fz,kD];exact this
     ·cases h
    ·cases h
   ·cases h
  ·rename_i ak
   have key: ∀E a w β ro,cP E G (S.den G N B e) a w β ro→qC S (S.aX N x)=true→∃cz,a.eval x= .pointer (some cz):=fun E a w β ro ae hi=>by
    obtain⟨cz,hc,_⟩:=vJ (sg (G:=G) (N:=N) (B:=B) (e:=e) hi) (by have:=ae.eval x;rw[bw hf]at this;exact this)
    exact⟨cz,hc⟩
   have ow: ∀E a w β ro,cP E G (S.den G N B e) a w β ro→a.eval y= .pointer none:=fun E a w β ro ae=>by
    refine ae.dU ?_
    rw[bw hf,ak];rfl
   split at h
   ·rename_i t hu hi
    cases h
    exact fun E a w β ro ae=>by
     obtain⟨cz,hc⟩:=key E a w β ro ae hi;exact⟨.bool false,by simp[execOp,ao,hc,ow E a w β ro ae,eqGuard_at_pointer,run_eql_pointer_nil w b4 (some cz) (KF hu)],.fw rfl⟩
   ·rename_i t hu hi
    cases h
    exact fun E a w β ro ae=>by
     obtain⟨cz,hc⟩:=key E a w β ro ae hi;exact⟨.bool true,by simp[execOp,ao,hc,ow E a w β ro ae,eqGuard_at_pointer,run_neq_pointer_nil w b4 (some cz) (KF hu)],.fw rfl⟩
   ·cases h
  ·cases h
end
end Go.aG
