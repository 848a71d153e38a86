/- TD, part C: laws of trees. Conditions: none. -/
import Derived.Test.YtmkpmgfieagphaaGreatDoorRTDb
namespace Go.aM
open Go
def hN{R A X:Type}(f:R→X):Step R A→Step X A
 | .ret r=>.ret (f r)
 | .b8 a=>.b8 a
 | .bn a=>.bn a
theorem te{R A X:Type}(f:R→X){b:Nat→A→Step R A}{c:Nat→A→Step X A}(h: ∀i a,c i a=hN f (b i a)): ∀(m k:Nat) (a:A),bL c k m a=Sum.map f id (bL b k m a)
 |0,_,_=>rfl
 |m+1,k,a=>by
  simp only[bL,h]
  cases b k a with
  |ret r=>rfl
  |b8 a=>rfl
  |bn a=>exact te f h m (k+1) a
theorem wu{R A X:Type}(f:R→X){b:A→Step R A}{c:A→Step X A}(h: ∀a,c a=hN f (b a)): ∀(m:Nat) (a:A),b4 c m a=Sum.map f id (b4 b m a)
 |0,_=>rfl
 |m+1,a=>by
  simp only[b4,h]
  cases b a with
  |ret r=>rfl
  |b8 a=>rfl
  |bn a=>exact wu f h m a
theorem Ip{R A X:Type}(f:R→X){b:A→Step R A}{c:A→Step X A}(h: ∀a,c a=hN f (b a)): ∀(m:Nat) (a:A),j0 c m a↔j0 b m a
 |0,_=>Iff.rfl
 |m+1,a=>by
  simp only[j0,h]
  cases b a with
  |ret r=>exact Iff.rfl
  |b8 a=>exact Iff.rfl
  |bn a=>exact Ip f h m a
theorem wv{X Y:Type}(g:X→Y)(m xid:Nat)(ca:List hb)(K:bT→ar→Env→X)(x:bT)(S:ar)(e:Env):hN g (dY m xid ca K x S e)=dY m xid ca (fun x S e=>g (K x S e)) x S e:=by
 unfold dY
 split
 ·rfl
 ·split<;>rfl
section
variable {X:Type} {m xid:Nat} {ca:List hb} {K:bT→ar→Env→X} {x:bT} {S:ar} {e:Env}
theorem nX(h:x.bH m=true):dY m xid ca K x S e= .bn (b3 _ (fh S e ca)):=by unfold dY;rw[h]
theorem nY(h:x.bH m=false)(h':x.cI xid=true):dY m xid ca K x S e= .b8 (b3 _ (fh S e ca)):=by unfold dY;rw[h,h']
theorem j5(h:x.bH m=false)(h':x.cI xid=false):dY m xid ca K x S e= .ret (K x S e):=by unfold dY;rw[h,h']
end
section
variable {M:List a1}
theorem fold_map: ∀(t:aB) {X Y:Type} (g:X→Y) (e:Env) (K:bT→ar→Env→X) (d:X),g (t.fold M e K d)=t.fold M e (fun x S ax=>g (K x S ax)) (g d)
  | .cu _ _,_,_,_,_,_,_=>rfl
  | .lt _ _ t,_,_,g,_,K,d=>fold_map t g _ K d
  | .eL _ t,_,_,g,_,K,d=>fold_map t g _ K d
  | .it c a b,_,_,g,e,K,d=>by
    simp only[aB.fold]
    cases c.aH e .bool with
    |true=>exact fold_map a g e K d
    |false=>exact fold_map b g e K d
  | .dr n a ps k,_,_,g,e,K,d=>by
    simp only[aB.fold]
    cases a.ja n with
    |true=>exact fold_map k g _ K d
    |false=>cases a.fold M e (fun x _ _=>x.bH n) false with
      |true=>exact fold_map k g _ K d
      |false=>exact fold_map a g e K d
  | .ec m xid da bU ca a k,X,Y,g,e,K,d=>by
    simp only[aB.fold]
    rw[te g (c:=fun i (v:bM ca)=>bif a.ja m
        then(.bn (a.fold M (bd (bb.put e bU ⟨.int .i64,(i:Int)⟩) ca v) (fun _ S ax=>b3 _ (fh S ax ca)) v):Step Y (bM ca))
        else a.fold M (bd (bb.put e bU ⟨.int .i64,(i:Int)⟩) ca v) (dY m xid ca fun x S e=>g (K x S e)) (.b8 v))
      (b:=fun i (v:bM ca)=>bif a.ja m
        then(.bn (a.fold M (bd (bb.put e bU ⟨.int .i64,(i:Int)⟩) ca v) (fun _ S ax=>b3 _ (fh S ax ca)) v):Step X (bM ca))
        else a.fold M (bd (bb.put e bU ⟨.int .i64,(i:Int)⟩) ca v) (dY m xid ca K) (.b8 v))
      (fun i v=>by
        cases a.ja m with
        |true=>rfl
        |false=>
          simp only[cond_false];rw[fold_map a (hN g)];simp only[wv]
          rfl)]
    generalize bL _ _ _ _=L
    cases L with
    |inl r=>rfl
    |inr v=>exact fold_map k g _ K d
  | .eH m xid ca a k,X,Y,g,e,K,d=>by
    simp only[aB.fold]
    rw[wu g (c:=fun(v:bM ca)=>a.fold M (bd e ca v) (dY m xid ca fun x S e=>g (K x S e)) (.b8 v))
      (b:=fun(v:bM ca)=>a.fold M (bd e ca v) (dY m xid ca K) (.b8 v))
      (fun v=>by
        rw[fold_map a (hN g)];simp only[wv]
        rfl)]
    generalize b4 _ _ _=L
    cases L with
    |inl r=>rfl
    |inr v=>exact fold_map k g _ K d
  | .bad _,_,_,_,_,_,_=>rfl
abbrev ni:=bT × ar × Env
def run(M:List a1)(t:aB)(e:Env):Option ni:=t.fold M e (fun x S ax=>some (x,S,ax)) none
theorem j6{t:aB}{e ax:Env}{x:bT}{S:ar}(h:run M t e=some (x,S,ax)){X:Type}(K:bT→ar→Env→X)(d:X):t.fold M e K d=K x S ax:=by
 have:=fold_map (M:=M) t (fun(o:Option ni)=>match o with|some (x,S,ax)=>K x S ax|none=>d) e (fun x S ax=>some (x,S,ax)) none
 simp only at this
 rw[←this]
 unfold run at h
 rw[h]
theorem za{t:aB}{e:Env}(h:run M t e=none){X:Type}(K:bT→ar→Env→X)(d:X):t.fold M e K d=d:=by
 have:=fold_map (M:=M) t (fun(o:Option ni)=>match o with|some (x,S,ax)=>K x S ax|none=>d) e (fun x S ax=>some (x,S,ax)) none
 simp only at this
 rw[←this]
 unfold run at h
 rw[h]
def cP(M:List a1)(m xid:Nat)(ca:List hb)(a:aB)(e:Env)(v:bM ca):Step (Option ni) (bM ca):=
 match run M a e with
 |some (x,S,ax)=>dY m xid ca (fun x S e=>some (x,S,e)) x S ax
 |none=>.b8 v
theorem wx(m xid:Nat)(ca:List hb)(a:aB)(e:Env)(v:bM ca):a.fold M e (dY m xid ca fun x S e=>some (x,S,e)) (.b8 v)=cP M m xid ca a e v:=by
 unfold cP
 split
 ·rename_i x S ax h
  exact j6 h _ _
 ·rename_i h
  exact za h _ _
theorem PS{m xid bU:Nat}{da:bS}{ca:List hb}{a k:aB}{e:Env}{X:Type}(K:bT→ar→Env→X)(d:X)(h:a.ja m=true→∀e,∃x S ax,run M a e=some (x,S,ax)∧x.bH m=true):
 (aB.ec m xid da bU ca a k).fold M e K d=Sum.elim (fun r=>r) (fun v=>k.fold M (bd e ca v) K d) (bL (fun i (v:bM ca)=>a.fold M (bd (bb.put e bU ⟨.int .i64,(i:Int)⟩) ca v) (dY m xid ca K) (.b8 v)) 0 (cg (da.den M e)).toNat (b3 _ (dw e ca))):=by
 simp only[aB.fold]
 cases ai:a.ja m with
 |false=>rfl
 |true=>
  have:(fun(i:Nat) (v:bM ca)=>(.bn (a.fold M (bd (bb.put e bU ⟨.int .i64,(i:Int)⟩) ca v) (fun _ S ax=>b3 _ (fh S ax ca)) v):Step X (bM ca)))=fun(i:Nat) (v:bM ca)=>a.fold M (bd (bb.put e bU ⟨.int .i64,(i:Int)⟩) ca v) (dY m xid ca K) (.b8 v):=by
   funext i v
   obtain⟨x,S,ax,aa,ad⟩:=h ai (bd (bb.put e bU ⟨.int .i64,(i:Int)⟩) ca v);simp only[j6 aa,dY,ad]
  simp only[cond_true];rw[this]
theorem jy: ∀{t:aB} {f:bT→Bool} {e:Env},t.fa f=true→∃x S ax,run M t e=some (x,S,ax)∧f x=true
 | .cu x S,_,e,h=>⟨x,S,e,rfl,h⟩
 | .lt _ _ t,_,_,h=>jy (t:=t) h
 | .eL _ t,_,_,h=>jy (t:=t) h
 | .it c a b,f,e,h=>by
  simp only[aB.fa,Bool.and_eq_true]at h;simp only[run,aB.fold]
  cases c.aH e .bool with
  |true=>exact jy (t:=a) h.1
  |false=>exact jy (t:=b) h.2
 | .dr n a ps k,f,e,h=>by
  simp only[aB.fa,Bool.and_eq_true]at h;obtain⟨x,S,ax,aa,ad⟩:=jy (t:=a) (e:=e) h.1;simp only[run,aB.fold]
  cases a.ja n with
  |true=>exact jy (t:=k) h.2
  |false=>
   rw[j6 aa]
   cases hx:x.bH n with
   |true=>exact jy (t:=k) h.2
   |false=>
    rw[hx,Bool.false_or]at ad;exact⟨x,S,ax,aa,ad⟩
 | .ec m xid da bU ca a k,f,e,h=>by
  simp only[aB.fa,Bool.and_eq_true]at h
  have key: ∀(n i:Nat) (v:bM ca),(∃bx,bL (fun i (v:bM ca)=>a.fold M (bd (bb.put e bU ⟨.int .i64,(i:Int)⟩) ca v) (dY m xid ca fun x S e=>some (x,S,e)) (.b8 v)) i n v= .inr bx)∨
   ∃x S ax,bL (fun i (v:bM ca)=>a.fold M (bd (bb.put e bU ⟨.int .i64,(i:Int)⟩) ca v) (dY m xid ca fun x S e=>some (x,S,e)) (.b8 v)) i n v= .inl (some (x,S,ax))∧f x=true:=by
   intro n
   induction n with
   |zero=>exact fun i v=>.inl ⟨v,rfl⟩
   |succ n aR=>
    intro i v;obtain⟨x,S,ax,aa,ad⟩:=jy (t:=a) (e:=bd (bb.put e bU ⟨.int .i64,(i:Int)⟩) ca v) h.1;simp only[bL,j6 aa]
    cases hx:x.bH m with
    |true=>
     rw[nX hx];exact aR (i+1) _
    |false=>
     cases az:x.cI xid with
     |true=>
      rw[nY hx az];exact .inl ⟨_,rfl⟩
     |false=>
      rw[j5 hx az];rw[hx,az,Bool.false_or,Bool.false_or]at ad;exact .inr ⟨x,S,ax,rfl,ad⟩
  unfold run;rw[PS _ _ fun ai e=>jy (t:=a) (e:=e) ai]
  rcases key (cg (da.den M e)).toNat 0 (b3 _ (dw e ca))with⟨bx,av⟩|⟨x,S,ax,av,hf⟩
  ·rw[av];exact jy (t:=k) h.2
  ·rw[av];exact⟨x,S,ax,rfl,hf⟩
 | .eH m xid ca a k,f,e,h=>by
  simp only[aB.fa,Bool.and_eq_true]at h
  have key: ∀(n:Nat) (v:bM ca),(∃bx,b4 (fun(v:bM ca)=>(a.fold M (bd e ca v) (dY m xid ca fun x S e=>some (x,S,e)) (.b8 v):Step (Option ni) (bM ca))) n v= .inr bx)∨
   ∃x S ax,b4 (fun(v:bM ca)=>(a.fold M (bd e ca v) (dY m xid ca fun x S e=>some (x,S,e)) (.b8 v):Step (Option ni) (bM ca))) n v= .inl (some (x,S,ax))∧f x=true:=by
   intro n
   induction n with
   |zero=>exact fun v=>.inl ⟨v,rfl⟩
   |succ n aR=>
    intro v;simp only[b4];obtain⟨x,S,ax,aa,ad⟩:=jy (t:=a) (e:=bd e ca v) h.1;rw[j6 aa]
    cases hx:x.bH m with
    |true=>
     rw[nX hx];exact aR _
    |false=>
     cases az:x.cI xid with
     |true=>
      rw[nY hx az];exact .inl ⟨_,rfl⟩
     |false=>
      rw[j5 hx az];rw[hx,az,Bool.false_or,Bool.false_or]at ad;exact .inr ⟨x,S,ax,rfl,ad⟩
  simp only[run,aB.fold]
  rcases key cn (b3 _ (dw e ca))with⟨bx,av⟩|⟨x,S,ax,av,hf⟩
  ·rw[av];exact jy (t:=k) h.2
  ·rw[av];exact⟨x,S,ax,rfl,hf⟩
 | .bad _,_,_,h=>by cases h
theorem pM{n:Nat}{a k:aB}{ps:List (Nat × aZ × eg)}{e aA:Env}{x:bT}{aQ:ar}(h:run M a e=some (x,aQ,aA))(hx:x.bH n=true){X:Type}(K:bT→ar→Env→X)(d:X):
 (aB.dr n a ps k).fold M e K d=k.fold M (fB e (fun r p=>⟨r,(p.c1 aQ).get aA r⟩) ps) K d:=by
 simp only[aB.fold]
 cases a.ja n with
 |true=>simp only[j6 h,cond_true]
 |false=>simp only[j6 h,hx,cond_true,cond_false]
theorem nj{n:Nat}{a k:aB}{ps:List (Nat × aZ × eg)}{e aA:Env}{x:bT}{aQ:ar}(h:run M a e=some (x,aQ,aA))(hx:x.bH n=false){X:Type}(K:bT→ar→Env→X)(d:X):
 (aB.dr n a ps k).fold M e K d=K x aQ aA:=by
 simp only[aB.fold]
 cases ai:a.ja n with
 |true=>
  obtain⟨lb,dm,ax,aa,ad⟩:=jy (M:=M) (t:=a) (e:=e) ai;rw[aa]at h;cases h;rw[hx]at ad;cases ad
 |false=>simp only[j6 h,hx,cond_false]
theorem su{n:Nat}{a k:aB}{ps:List (Nat × aZ × eg)}{e:Env}(h:run M a e=none){X:Type}(K:bT→ar→Env→X)(d:X):
 (aB.dr n a ps k).fold M e K d=d:=by
 simp only[aB.fold]
 cases ai:a.ja n with
 |true=>
  obtain⟨lb,dm,ax,aa,ad⟩:=jy (M:=M) (t:=a) (e:=e) ai;rw[aa]at h;cases h
 |false=>simp only[za h,cond_false]
theorem PT{n:Nat}{a k:aB}{ps:List (Nat × aZ × eg)}{e aA:Env}{x:bT}{aQ:ar}(ag:(aB.dr n a ps k).safe M e)(h:run M a e=some (x,aQ,aA))(hx:x.bH n=true):
 k.safe M (fB e (fun r p=>⟨r,(p.c1 aQ).get aA r⟩) ps):=by
 have aa:=ag.2 (by rw[j6 h];exact hx)
 have ad:(fun(r:aZ) (p:eg)=>(⟨r,bif a.ja n
  then a.fold M e (fun _ S ax=>(p.c1 S).get ax r) r.gH
  else a.fold M e (fun x S ax=>bif x.bH n then(p.c1 S).get ax r else r.gH) r.gH⟩:aD))=fun r p=>⟨r,(p.c1 aQ).get aA r⟩:=by
  funext r p
  simp only[j6 h,hx]
  cases a.ja n<;>rfl
 rw[ad]at aa
 exact aa
theorem wy{m xid bU:Nat}{da:bS}{ca:List hb}{a k:aB}{e:Env}{X:Type}(K:bT→ar→Env→X)(d:X):
 (aB.ec m xid da bU ca a k).fold M e K d=Sum.elim (fun r=>r) (fun v=>k.fold M (bd e ca v) K d) (bL (fun i (v:bM ca)=>a.fold M (bd (bb.put e bU ⟨.int .i64,(i:Int)⟩) ca v) (dY m xid ca K) (.b8 v)) 0 (cg (da.den M e)).toNat (b3 _ (dw e ca))):=PS K d fun ai _=>jy ai
end
end Go.aM
namespace Go.aM
open Go
def aB.rel:aB→(bT→bT)→aB
 | .cu x S,f=>.cu (f x) S
 | .lt i x t,f=>.lt i x (t.rel f)
 | .eL n t,f=>.eL n (t.rel f)
 | .it c a b,f=>.it c (a.rel f) (b.rel f)
 | .dr n a ps k,f=>.dr n (a.rel fun x=>bif x.bH n then x else f x) ps (k.rel f)
 | .ec m xid da bU ca a k,f=>.ec m xid da bU ca (a.rel fun x=>bif x.bH m||x.cI xid then x else f x) (k.rel f)
 | .eH m xid ca a k,f=>.eH m xid ca (a.rel fun x=>bif x.bH m||x.cI xid then x else f x) (k.rel f)
 | .bad n,_=>.bad n
def aB.ic:aB→(bT→bT)→Prop
 | .cu _ _,_=>True
 | .lt _ _ t,f=>t.ic f
 | .eL _ t,f=>t.ic f
 | .it _ a b,f=>a.ic f∧b.ic f
 | .dr n a _ k,f=>(∀x,x.bH n=false→(f x).bH n=false)∧(a.ic fun x=>bif x.bH n then x else f x)∧k.ic f
 | .ec m xid _ _ _ a k,f=>(∀x,x.bH m=false→x.cI xid=false→(f x).bH m=false∧(f x).cI xid=false)∧(a.ic fun x=>bif x.bH m||x.cI xid then x else f x)∧k.ic f
 | .eH m xid _ a k,f=>(∀x,x.bH m=false→x.cI xid=false→(f x).bH m=false∧(f x).cI xid=false)∧(a.ic fun x=>bif x.bH m||x.cI xid then x else f x)∧k.ic f
 | .bad _,_=>True
section
variable {M:List a1}
theorem Cz{X:Type}{m xid:Nat}{ca:List hb}{K:bT→ar→Env→X}{f:bT→bT}(h: ∀x,x.bH m=false→x.cI xid=false→(f x).bH m=false∧(f x).cI xid=false)(x:bT)(S:ar)(e:Env):
 dY m xid ca K (bif x.bH m||x.cI xid then x else f x) S e=dY m xid ca (fun x S e=>K (f x) S e) x S e:=by
 cases hx:x.bH m with
 |true=>rw[Bool.true_or,cond_true,nX hx,nX hx]
 |false=>
  cases az:x.cI xid with
  |true=>rw[Bool.false_or,cond_true,nY hx az,nY hx az]
  |false=>
   obtain⟨aa,ad⟩:=h x hx az;rw[Bool.false_or,cond_false,j5 hx az,j5 aa ad]
theorem Iq: ∀{t:aB} {f g:bT→Bool},(∀x,f x=g x)→t.fa f=t.fa g:=fun {t f g} h=>by
 have:f=g:=funext h
 rw[this]
theorem oM: ∀{t:aB} {f:bT→bT} {g:bT→Bool},t.ic f→(t.rel f).fa g=t.fa fun x=>g (f x)
 | .cu _ _,_,_,_=>rfl
 | .lt _ _ t,_,_,h=>oM (t:=t) h
 | .eL _ t,_,_,h=>oM (t:=t) h
 | .it _ a b,f,g,h=>by simp only[aB.rel,aB.fa,oM (t:=a) h.1,oM (t:=b) h.2]
 | .dr n a ps k,f,g,h=>by
  simp only[aB.rel,aB.fa,oM (t:=a) h.2.1,oM (t:=k) h.2.2]
  congr 1
  refine Iq fun x=>?_
  cases hx:x.bH n with
  |true=>simp[hx]
  |false=>simp[h.1 x hx]
 | .ec m xid da bU ca a k,f,g,h=>by
  simp only[aB.rel,aB.fa,oM (t:=a) h.2.1,oM (t:=k) h.2.2]
  congr 1
  refine Iq fun x=>?_
  cases hx:x.bH m with
  |true=>simp[hx]
  |false=>
   cases az:x.cI xid with
   |true=>simp[az]
   |false=>simp[(h.1 x hx az).1,(h.1 x hx az).2]
 | .eH m xid ca a k,f,g,h=>by
  simp only[aB.rel,aB.fa,oM (t:=a) h.2.1,oM (t:=k) h.2.2]
  congr 1
  refine Iq fun x=>?_
  cases hx:x.bH m with
  |true=>simp[hx]
  |false=>
   cases az:x.cI xid with
   |true=>simp[az]
   |false=>simp[(h.1 x hx az).1,(h.1 x hx az).2]
 | .bad _,_,_,_=>rfl
theorem mm: ∀{t:aB} {f:bT→bT},t.ic f→∀{X:Type} (e:Env) (K:bT→ar→Env→X) (d:X),(t.rel f).fold M e K d=t.fold M e (fun x S ax=>K (f x) S ax) d
 | .cu _ _,_,_,_,_,_,_=>rfl
 | .lt _ _ t,_,h,_,_,K,d=>mm (t:=t) h _ K d
 | .eL _ t,_,h,_,_,K,d=>mm (t:=t) h _ K d
 | .it c a b,f,h,_,e,K,d=>by
  simp only[aB.rel,aB.fold,mm (t:=a) h.1,mm (t:=b) h.2]
 | .dr n a ps k,f,h,_,e,K,d=>by
  have af:run M (a.rel fun x=>bif x.bH n then x else f x) e=(run M a e).map fun l=>(bif l.1.bH n then l.1 else f l.1,l.2):=by
   unfold run;rw[mm (t:=a) h.2.1];rw[fold_map a (fun o:Option ni=>o.map fun l=>(bif l.1.bH n then l.1 else f l.1,l.2))]
   rfl
  show(aB.dr n (a.rel fun x=>bif x.bH n then x else f x) ps (k.rel f)).fold M e K d=_
  cases cU:run M a e with
  |none=>rw[su (by rw[af,cU];rfl),su cU]
  |some l=>
   obtain⟨x,aQ,aA⟩:=l
   have aa:run M (a.rel fun x=>bif x.bH n then x else f x) e=some (bif x.bH n then x else f x,aQ,aA):=by rw[af,cU];rfl
   cases hx:x.bH n with
   |true=>
    rw[hx,cond_true]at aa;rw[pM aa hx,pM cU hx];exact mm (t:=k) h.2.2 _ K d
   |false=>
    rw[hx,cond_false]at aa;rw[nj aa (h.1 x hx),nj cU hx]
 | .ec m xid da bU ca a k,f,h,X,e,K,d=>by
  show(aB.ec m xid da bU ca (a.rel fun x=>bif x.bH m||x.cI xid then x else f x) (k.rel f)).fold M e K d=_
  rw[wy,wy]
  have:(fun(i:Nat) (v:bM ca)=>(a.rel fun x=>bif x.bH m||x.cI xid then x else f x).fold M (bd (bb.put e bU ⟨.int .i64,(i:Int)⟩) ca v) (dY m xid ca K) (.b8 v))=fun(i:Nat) (v:bM ca)=>a.fold M (bd (bb.put e bU ⟨.int .i64,(i:Int)⟩) ca v) (dY m xid ca fun x S ax=>K (f x) S ax) (.b8 v):=by
   funext i v
   rw[mm (t:=a) h.2.1];simp only[Cz h.1]
  rw[this];generalize bL _ _ _ _=L
  cases L with
  |inl r=>rfl
  |inr v=>exact mm (t:=k) h.2.2 _ K d
 | .eH m xid ca a k,f,h,X,e,K,d=>by
  simp only[aB.rel,aB.fold]
  have:(fun(v:bM ca)=>(a.rel fun x=>bif x.bH m||x.cI xid then x else f x).fold M (bd e ca v) (dY m xid ca K) (.b8 v))=fun(v:bM ca)=>a.fold M (bd e ca v) (dY m xid ca fun x S ax=>K (f x) S ax) (.b8 v):=by
   funext v
   rw[mm (t:=a) h.2.1];simp only[Cz h.1]
  rw[this];generalize b4 _ _ _=L
  cases L with
  |inl r=>rfl
  |inr v=>exact mm (t:=k) h.2.2 _ K d
 | .bad _,_,_,_,_,_,_=>rfl
theorem zb{t:aB}{f:bT→bT}(h:t.ic f)(e:Env):run M (t.rel f) e=(run M t e).map fun l=>(f l.1,l.2):=by
 unfold run
 rw[mm h,fold_map t (fun o:Option ni=>o.map fun l=>(f l.1,l.2))]
 rfl
theorem lN: ∀{t:aB} {f:bT→bT},t.ic f→∀{e:Env},(t.rel f).safe M e↔t.safe M e
 | .cu _ _,_,_,_=>Iff.rfl
 | .lt _ _ t,_,h,_=>lN (t:=t) h
 | .eL _ t,_,h,_=>by simp only[aB.rel,aB.safe,lN (t:=t) h]
 | .it c a b,f,h,e=>by simp only[aB.rel,aB.safe,lN (t:=a) h.1,lN (t:=b) h.2]
 | .dr n a ps k,f,h,e=>by
  have ai: ∀x,(bif bT.bH n x then x else f x).bH n=x.bH n:=fun x=>by
   cases hx:x.bH n with
   |true=>exact hx
   |false=>exact h.1 x hx
  simp only[aB.rel,aB.safe,lN (t:=a) h.2.1,lN (t:=k) h.2.2,aB.ja,oM h.2.1,mm h.2.1,ai]
 | .ec m xid da bU ca a k,f,h,e=>by
  simp only[aB.rel,aB.safe,lN (t:=a) h.2.1,lN (t:=k) h.2.2,mm h.2.1,Cz h.1]
 | .eH m xid ca a k,f,h,e=>by
  simp only[aB.rel,aB.safe,lN (t:=a) h.2.1,lN (t:=k) h.2.2,mm h.2.1,Cz h.1]
 | .bad _,_,_,_=>Iff.rfl
end
def aB.lvl:aB→Nat
 | .lt _ _ t=>t.lvl
 | .eL _ t=>t.lvl
 | .it _ a b=>Nat.max a.lvl b.lvl
 | .dr n a _ k=>Nat.max n (Nat.max a.lvl k.lvl)
 | .ec m _ _ _ _ a k=>Nat.max m (Nat.max a.lvl k.lvl)
 | .eH m _ _ a k=>Nat.max m (Nat.max a.lvl k.lvl)
 |_=>0
def fu(n:Nat):bT→bT
 | .b9=>.lh n
 |x=>x
def oN(i:Nat):bT→bT
 | .ext m=>match Nat.beq m i with
  |true=>.b9
  |false=>.ext m
 |x=>x
theorem ZH(i n:Nat)(x:bT)(h:x.bH n=false):(oN i x).bH n=false:=by
 unfold oN
 split
 ·split
  ·rfl
  ·exact h
 ·exact h
theorem ZI(i n:Nat)(x:bT)(h:x.cI n=false):(oN i x).cI n=false:=by
 unfold oN
 split
 ·split
  ·rfl
  ·exact h
 ·exact h
theorem ZJ(i n:Nat)(hn:i≠n)(x:bT)(h:x.bH n=false):(fu i x).bH n=false:=by
 unfold fu
 split
 ·show Nat.beq i n=false
  rw[pL];exact decide_eq_false hn
 ·exact h
theorem ZK(i n:Nat)(x:bT)(h:x.cI n=false):(fu i x).cI n=false:=by
 unfold fu
 split
 ·rfl
 ·exact h
theorem nk: ∀{t:aB} {f:bT→bT} (N:Nat),t.lvl<N→(∀n,n<N→∀x,x.bH n=false→(f x).bH n=false)→(∀n x,x.cI n=false→(f x).cI n=false)→t.ic f
 | .cu _ _,_,_,_,_,_=>trivial
 | .lt _ _ t,_,N,ao,aa,ad=>nk (t:=t) N ao aa ad
 | .eL _ t,_,N,ao,aa,ad=>nk (t:=t) N ao aa ad
 | .it _ a b,f,N,ao,aa,ad=>by
  have ao:Nat.max a.lvl b.lvl<N:=ao
  have g1:a.lvl≤Nat.max a.lvl b.lvl:=Nat.le_max_left _ _
  have g2:b.lvl≤Nat.max a.lvl b.lvl:=Nat.le_max_right _ _
  exact⟨nk (t:=a) N (by omega) aa ad,nk (t:=b) N (by omega) aa ad⟩
 | .dr n a _ k,f,N,ao,aa,ad=>by
  have ao:Nat.max n (Nat.max a.lvl k.lvl)<N:=ao
  have g0:n≤Nat.max n (Nat.max a.lvl k.lvl):=Nat.le_max_left _ _
  have g3:Nat.max a.lvl k.lvl≤Nat.max n (Nat.max a.lvl k.lvl):=Nat.le_max_right _ _
  have g1:a.lvl≤Nat.max a.lvl k.lvl:=Nat.le_max_left _ _
  have g2:k.lvl≤Nat.max a.lvl k.lvl:=Nat.le_max_right _ _
  refine⟨aa n (by omega),nk (t:=a) N (by omega) (fun p ak x hx=>?_) (fun p x hx=>?_),nk (t:=k) N (by omega) aa ad⟩
  ·cases x.bH n with
   |true=>exact hx
   |false=>exact aa p ak x hx
  ·cases x.bH n with
   |true=>exact hx
   |false=>exact ad p x hx
 | .ec m xid _ _ _ a k,f,N,ao,aa,ad=>by
  have ao:Nat.max m (Nat.max a.lvl k.lvl)<N:=ao
  have g0:m≤Nat.max m (Nat.max a.lvl k.lvl):=Nat.le_max_left _ _
  have g3:Nat.max a.lvl k.lvl≤Nat.max m (Nat.max a.lvl k.lvl):=Nat.le_max_right _ _
  have g1:a.lvl≤Nat.max a.lvl k.lvl:=Nat.le_max_left _ _
  have g2:k.lvl≤Nat.max a.lvl k.lvl:=Nat.le_max_right _ _
  refine⟨fun x hx az=>⟨aa m (by omega) x hx,ad xid x az⟩,nk (t:=a) N (by omega) (fun p ak x hx=>?_) (fun p x hx=>?_),nk (t:=k) N (by omega) aa ad⟩
  ·cases x.bH m||x.cI xid with
   |true=>exact hx
   |false=>exact aa p ak x hx
  ·cases x.bH m||x.cI xid with
   |true=>exact hx
   |false=>exact ad p x hx
 | .eH m xid _ a k,f,N,ao,aa,ad=>by
  have ao:Nat.max m (Nat.max a.lvl k.lvl)<N:=ao
  have g0:m≤Nat.max m (Nat.max a.lvl k.lvl):=Nat.le_max_left _ _
  have g3:Nat.max a.lvl k.lvl≤Nat.max m (Nat.max a.lvl k.lvl):=Nat.le_max_right _ _
  have g1:a.lvl≤Nat.max a.lvl k.lvl:=Nat.le_max_left _ _
  have g2:k.lvl≤Nat.max a.lvl k.lvl:=Nat.le_max_right _ _
  refine⟨fun x hx az=>⟨aa m (by omega) x hx,ad xid x az⟩,nk (t:=a) N (by omega) (fun p ak x hx=>?_) (fun p x hx=>?_),nk (t:=k) N (by omega) aa ad⟩
  ·cases x.bH m||x.cI xid with
   |true=>exact hx
   |false=>exact aa p ak x hx
  ·cases x.bH m||x.cI xid with
   |true=>exact hx
   |false=>exact ad p x hx
 | .bad _,_,_,_,_,_=>trivial
theorem ZL(t:aB)(i:Nat):t.ic (oN i):=nk (t.lvl+1) (Nat.lt_succ_self _) (fun n _ x=>ZH i n x) (fun n x=>ZI i n x)
theorem Ir{t:aB}{n:Nat}(h:t.lvl<n):t.ic (fu n):=nk n h (fun m hm x=>ZJ n m (by omega) x) (fun m x=>ZK n m x)
def oO(o:Option (bT→Bool))(x:bT):Bool:=
 match o with
 |none=>true
 |some f=>f x
def aB.eC(f:ar→aB):aB→Option (bT→Bool)→aB
 | .cu .b9 S,none=>f S
 | .cu .b9 S,some o=>match(f S).fa o with
  |true=>f S
  |false=>.bad 9
 | .cu x S,_=>.cu x S
 | .lt i x t,o=>.lt i x (t.eC f o)
 | .eL n t,o=>.eL n (t.eC f o)
 | .it c a b,o=>.it c (a.eC f o) (b.eC f o)
 | .dr n a ps k,o=>.dr n (a.eC f (some fun x=>!(x.bH n)&&oO o x)) ps (k.eC f o)
 | .ec m xid da bU ca a k,o=>.ec m xid da bU ca (a.eC f (some fun x=>!(x.bH m)&&(!(x.cI xid)&&oO o x))) (k.eC f o)
 | .eH m xid ca a k,o=>.eH m xid ca (a.eC f (some fun x=>!(x.bH m)&&(!(x.cI xid)&&oO o x))) (k.eC f o)
 | .bad n,_=>.bad n
end Go.aM
namespace Go.aM
open Go
theorem xL{R A:Type}{b c:Nat→A→Step R A}(I:Nat→A→Prop)(n:Nat)(h: ∀i v,i<n→I i v→c i v=b i v∧∀bx,b i v= .bn bx→I (i+1) bx): ∀(m k:Nat) (a:A),k+m=n→I k a→bL c k m a=bL b k m a
 |0,_,_,_,_=>rfl
 |m+1,k,a,hn,hi=>by
  obtain⟨aa,ad⟩:=h k a (by omega) hi
  simp only[bL,aa]
  cases ae:b k a with
  |ret r=>rfl
  |b8 a=>rfl
  |bn v=>exact xL I n h m (k+1) v (by omega) (ad v ae)
theorem Is{R A:Type}{b c:A→Step R A}(I:A→Prop)(h: ∀v,I v→c v=b v∧∀bx,b v= .bn bx→I bx): ∀(m:Nat) (a:A),I a→b4 c m a=b4 b m a∧(j0 c m a↔j0 b m a)
 |0,_,_=>⟨rfl,Iff.rfl⟩
 |m+1,a,hi=>by
  obtain⟨aa,ad⟩:=h a hi;simp only[b4,j0,aa]
  cases ae:b a with
  |ret r=>exact⟨rfl,Iff.rfl⟩
  |b8 a=>exact⟨rfl,Iff.rfl⟩
  |bn v=>exact Is I h m v (ad v ae)
def ie(M:List a1)(f:ar→aB)(o:Option ni):Option ni:=
 match o with
 |some (.b9,S,e)=>run M (f S) e
 |o=>o
section
variable {M:List a1} {f:ar→aB}
theorem zc{x:bT}{S:ar}{e:Env}(h:x≠ .b9):ie M f (some (x,S,e))=some (x,S,e):=by
 unfold ie
 split
 ·rename_i hx;cases hx;exact absurd rfl h
 ·rfl
theorem iD(m xid:Nat)(ca:List hb)(a:aB)(e:Env)(v:bM ca):a.fold M e (dY m xid ca fun _ _ _=>()) (.b8 v)=hN (fun _=>()) (cP M m xid ca a e v):=by
 unfold cP
 split
 ·rename_i x S ax h
  rw[j6 h,wv]
 ·rename_i h
  rw[za h];rfl
theorem sv{R A X:Type}{f:R→X}{s:Step R A}{v:A}(h:hN f s= .bn v):s= .bn v:=by
 cases s<;>simp_all[hN]
theorem PU{m xid:Nat}{ca:List hb}{a aY:aB}{e:Env}{v:bM ca}(h:run M aY e=ie M f (run M a e))(ao: ∀S ax,run M a e=some (.b9,S,ax)→∃x aQ aA,run M (f S) ax=some (x,aQ,aA)∧x.bH m=false∧x.cI xid=false):
 cP M m xid ca aY e v=hN (ie M f) (cP M m xid ca a e v):=by
 unfold cP
 rw[h]
 cases af:run M a e with
 |none=>rfl
 |some l=>
  obtain⟨x,S,ax⟩:=l
  cases x with
  |b9=>
   obtain⟨x,aQ,aA,aa,ad,aq⟩:=ao S ax af;simp only[ie,aa];rw[j5 ad aq,j5 (x:=.b9) rfl rfl];simp only[hN,ie,aa]
  |ext n=>
   simp only[ie];rw[wv]
   cases hx:bT.cI xid (.ext n)with
   |true=>rw[nY rfl hx,nY rfl hx]
   |false=>rw[j5 rfl hx,j5 rfl hx];rfl
  |ret=>
   simp only[ie];rw[wv,j5 rfl rfl,j5 rfl rfl];rfl
  |lh n=>
   simp only[ie];rw[wv]
   cases hx:bT.bH m (.lh n)with
   |true=>rw[nX hx,nX hx]
   |false=>rw[j5 hx rfl,j5 hx rfl];rfl
theorem nn: ∀{t:aB} {p q:bT→Bool},t.fa p=true→(∀x,p x=true→q x=true)→t.fa q=true
 | .cu x _,_,_,h,aL=>aL x h
 | .lt _ _ t,_,_,h,aL=>nn (t:=t) h aL
 | .eL _ t,_,_,h,aL=>nn (t:=t) h aL
 | .it _ a b,_,_,h,aL=>by
  simp only[aB.fa,Bool.and_eq_true]at h⊢;exact⟨nn h.1 aL,nn h.2 aL⟩
 | .dr n a _ k,_,_,h,aL=>by
  simp only[aB.fa,Bool.and_eq_true]at h⊢;refine⟨nn h.1 fun x hx=>?_,nn h.2 aL⟩
  simp only[Bool.or_eq_true]at hx⊢;exact hx.imp id (aL x)
 | .ec m xid _ _ _ a k,_,_,h,aL=>by
  simp only[aB.fa,Bool.and_eq_true]at h⊢;refine⟨nn h.1 fun x hx=>?_,nn h.2 aL⟩
  simp only[Bool.or_eq_true]at hx⊢;exact hx.imp id (Or.imp id (aL x))
 | .eH m xid _ a k,_,_,h,aL=>by
  simp only[aB.fa,Bool.and_eq_true]at h⊢;refine⟨nn h.1 fun x hx=>?_,nn h.2 aL⟩
  simp only[Bool.or_eq_true]at hx⊢;exact hx.imp id (Or.imp id (aL x))
 | .bad _,_,_,h,_=>by cases h
theorem jz: ∀(t:aB) (o:Option (bT→Bool)) {e:Env},(t.eC f o).safe M e→
    t.safe M e∧run M (t.eC f o) e=ie M f (run M t e)∧∀S ax,run M t e=some (.b9,S,ax)→(f S).safe M ax∧∀p,o=some p→(f S).fa p=true
  | .cu x S,o,e,h=>by
    cases x with
    |b9=>
      cases o with
      |none=>exact⟨trivial,rfl,fun dm ax af=>by cases af;exact⟨h,fun _ ak=>by cases ak⟩⟩
      |some p=>
        simp only[aB.eC]at h
        split at h
        · rename_i ao
          have ah:(aB.cu .b9 S).eC f (some p)=f S:=by simp only[aB.eC,ao]
          rw[ah];exact⟨trivial,rfl,fun dm ax af=>by cases af;exact⟨h,fun _ ak=>by cases ak;exact ao⟩⟩
        · exact h.elim
    |_=>exact⟨trivial,rfl,fun dm ax af=>by cases af⟩
  | .lt i x t,o,_,h=>jz t o (e:=bb.put _ i _) h
  | .eL n t,o,e,h=>by
    obtain⟨aa,ad,aq⟩:=jz t o h.2;exact⟨⟨h.1,aa⟩,ad,aq⟩
  | .it c a b,o,e,h=>by
    have aI:=fun hc=>jz a o (h.1 hc)
    have ae:=fun hc=>jz b o (h.2 hc)
    refine⟨⟨fun hc=>(aI hc).1,fun hc=>(ae hc).1⟩,?_⟩
    simp only[run,aB.eC,aB.fold]
    cases hc:c.aH e .bool with
    |true=>exact(aI hc).2
    |false=>exact(ae hc).2
  | .dr n a ps k,o,e,h=>by
    obtain⟨bD,a2,a3⟩:=jz a _ h.1
    have ag:(aB.dr n a ps k).safe M e∧run M ((aB.dr n a ps k).eC f o) e=ie M f (run M (aB.dr n a ps k) e)∧∀S ax,run M (aB.dr n a ps k) e=some (.b9,S,ax)→(f S).safe M ax∧∀p,o=some p→(f S).fa p=true:=by
      show _∧run M (.dr n (a.eC f (some fun x=>!(x.bH n)&&oO o x)) ps (k.eC f o)) e=_∧_
      cases af:run M a e with
      |none=>
        rw[af]at a2
        have a2:run M _ e=none:=a2
        refine⟨⟨bD,fun ai=>by rw[za af]at ai;cases ai⟩,?_,fun S ax ai=>by unfold run at ai;rw[su af]at ai;cases ai⟩
        unfold run;rw[su a2,su af];rfl
      |some l=>
        obtain⟨x,aQ,aA⟩:=l
        cases hx:x.bH n with
        |true=>
          have cb:x≠ .b9:=fun e=>by rw[e]at hx;cases hx
          rw[af,zc cb]at a2
          have aj:=PT h a2 hx
          obtain⟨fJ,ix,wz⟩:=jz k o aj;refine⟨⟨bD,fun _=>?_⟩,?_,fun S ax ai=>?_⟩
          · have:(fun(r:aZ) (p:eg)=>(⟨r,bif a.ja n
      then a.fold M e (fun _ S ax=>(p.c1 S).get ax r) r.gH
      else a.fold M e (fun x S ax=>bif x.bH n then(p.c1 S).get ax r else r.gH) r.gH⟩:aD))=fun r p=>⟨r,(p.c1 aQ).get aA r⟩:=by
              funext r p
              simp only[j6 af,hx]
              cases a.ja n<;>rfl
            rw[this];exact fJ
          · unfold run
            rw[pM a2 hx,pM af hx];exact ix
          · unfold run at ai
            rw[pM af hx]at ai;exact wz S ax ai
        |false=>
          have PV:(aB.dr n a ps k).safe M e:=⟨bD,fun ai=>by rw[j6 af,hx]at ai;cases ai⟩
          by_cases cb:x= .b9
          · subst cb
            obtain⟨f1,f2⟩:=a3 aQ aA af
            have f2:=f2 _ rfl
            obtain⟨y,dS,aW,g1,g2⟩:=jy (M:=M) (e:=aA) f2;simp only[Bool.and_eq_true,Bool.not_eq_true']at g2;rw[af]at a2
            have a2:run M _ e=run M (f aQ) aA:=a2
            rw[g1]at a2;refine⟨PV,?_,fun S ax ai=>?_⟩
            · have aa:run M (aB.dr n a ps k) e=some (.b9,aQ,aA):=by unfold run;rw[nj af hx]
              rw[aa];show _=run M (f aQ) aA;rw[g1];unfold run;rw[nj a2 g2.1]
            · unfold run at ai
              rw[nj af hx]at ai;cases ai;refine⟨f1,fun p ak=>?_⟩
              subst ak;exact nn f2 fun x hx=>by simp only[Bool.and_eq_true]at hx;exact hx.2
          · rw[af,zc cb]at a2
            refine⟨PV,?_,fun S ax ai=>?_⟩
            · unfold run
              rw[nj a2 hx,nj af hx,zc cb]
            · unfold run at ai
              rw[nj af hx]at ai;cases ai;exact absurd rfl cb
    exact ag
  | .ec m xid da bU ca a k,o,e,h=>by
    obtain⟨⟨I,i0,cd⟩,aj⟩:=h
    have key: ∀(i:Nat) (v:bM ca),i<(cg (da.den M e)).toNat→I i v→a.safe M (bd (bb.put e bU ⟨.int .i64,(i:Int)⟩) ca v)∧
        cP M m xid ca (a.eC f (some fun x=>!(x.bH m)&&(!(x.cI xid)&&oO o x))) (bd (bb.put e bU ⟨.int .i64,(i:Int)⟩) ca v) v=hN (ie M f) (cP M m xid ca a (bd (bb.put e bU ⟨.int .i64,(i:Int)⟩) ca v) v)∧
        (∀bx,cP M m xid ca a (bd (bb.put e bU ⟨.int .i64,(i:Int)⟩) ca v) v= .bn bx→I (i+1) bx)∧
        ∀S ax,cP M m xid ca a (bd (bb.put e bU ⟨.int .i64,(i:Int)⟩) ca v) v= .ret (some (.b9,S,ax))→(f S).safe M ax∧∀p,o=some p→(f S).fa p=true:=by
      intro i v hi av;obtain⟨s1,s2⟩:=cd i v hi av;obtain⟨bD,a2,a3⟩:=jz a _ s1
      have ah:=PU (m:=m) (xid:=xid) (ca:=ca) (v:=v) a2 fun S ax af=>by
        obtain⟨y,dS,aW,g1,g2⟩:=jy (M:=M) (e:=ax) ((a3 S ax af).2 _ rfl);simp only[Bool.and_eq_true,Bool.not_eq_true']at g2;exact⟨y,dS,aW,g1,g2.1,g2.2.1⟩
      refine⟨bD,ah,fun bx jA=>s2 bx ?_,fun S ax af=>?_⟩
      · rw[iD,ah,jA]
        rfl
      · unfold cP at af
        cases oP:run M a (bd (bb.put e bU ⟨.int .i64,(i:Int)⟩) ca v)with
        |none=>rw[oP]at af;cases af
        |some l=>
          obtain⟨x,dm,y4⟩:=l;rw[oP]at af;simp only at af
          cases hx:x.bH m with
          |true=>rw[nX hx]at af;cases af
          |false=>
            cases az:x.cI xid with
            |true=>rw[nY hx az]at af;cases af
            |false=>
              rw[j5 hx az]at af;cases af;obtain⟨f1,f2⟩:=a3 S ax oP;refine⟨f1,fun p ak=>?_⟩
              subst ak;exact nn (f2 _ rfl) fun x hx=>by simp only[Bool.and_eq_true]at hx;exact hx.2.2
    have rJ:bL (fun i (v:bM ca)=>(a.eC f (some fun x=>!(x.bH m)&&(!(x.cI xid)&&oO o x))).fold M (bd (bb.put e bU ⟨.int .i64,(i:Int)⟩) ca v) (dY m xid ca fun _ _ _=>()) (.b8 v)) 0 (cg (da.den M e)).toNat (b3 _ (dw e ca))=
        bL (fun i (v:bM ca)=>a.fold M (bd (bb.put e bU ⟨.int .i64,(i:Int)⟩) ca v) (dY m xid ca fun _ _ _=>()) (.b8 v)) 0 (cg (da.den M e)).toNat (b3 _ (dw e ca)):=
      xL I _ (fun i v hi av=>by
        obtain⟨_,g2,g3,_⟩:=key i v hi av;refine⟨?_,fun bx jA=>g3 bx ?_⟩
        · rw[iD,iD,g2]
          cases cP M m xid ca a (bd (bb.put e bU ⟨.int .i64,(i:Int)⟩) ca v) v<;>rfl
        · rw[iD]at jA
          exact sv jA) _ 0 _ (by omega) i0
    rw[rJ]at aj
    have fG:bL (fun i (v:bM ca)=>(a.eC f (some fun x=>!(x.bH m)&&(!(x.cI xid)&&oO o x))).fold M (bd (bb.put e bU ⟨.int .i64,(i:Int)⟩) ca v) (dY m xid ca fun x S e=>some (x,S,e)) (.b8 v)) 0 (cg (da.den M e)).toNat (b3 _ (dw e ca))=
        bL (fun i (v:bM ca)=>hN (ie M f) (cP M m xid ca a (bd (bb.put e bU ⟨.int .i64,(i:Int)⟩) ca v) v)) 0 (cg (da.den M e)).toNat (b3 _ (dw e ca)):=
      xL I _ (fun i v hi av=>by
        obtain⟨_,g2,g3,_⟩:=key i v hi av;refine⟨?_,fun bx jA=>g3 bx (sv jA)⟩
        rw[wx,g2]) _ 0 _ (by omega) i0
    have gG: ∀(n i:Nat) (v:bM ca),i+n=(cg (da.den M e)).toNat→I i v→∀S ax,bL (fun i (v:bM ca)=>cP M m xid ca a (bd (bb.put e bU ⟨.int .i64,(i:Int)⟩) ca v) v) i n v= .inl (some (.b9,S,ax))→(f S).safe M ax∧∀p,o=some p→(f S).fa p=true:=by
      intro n
      induction n with
      |zero=>intro i v _ _ S ax h;cases h
      |succ n aR=>
        intro i v Hp av S ax h;obtain⟨_,_,g3,g4⟩:=key i v (by omega) av
        simp only[bL]at h
        cases af:cP M m xid ca a (bd (bb.put e bU ⟨.int .i64,(i:Int)⟩) ca v) v with
        |ret r=>rw[af]at h;cases h;exact g4 S ax af
        |b8 bx=>rw[af]at h;cases h
        |bn bx=>rw[af]at h;exact aR (i+1) bx (by omega) (g3 bx af) S ax h
    have cU:run M (.ec m xid da bU ca a k) e=Sum.elim (fun r=>r) (fun v=>run M k (bd e ca v)) (bL (fun i (v:bM ca)=>cP M m xid ca a (bd (bb.put e bU ⟨.int .i64,(i:Int)⟩) ca v) v) 0 (cg (da.den M e)).toNat (b3 _ (dw e ca))):=by
      unfold run;rw[wy];simp only[wx]
    have It:run M ((aB.ec m xid da bU ca a k).eC f o) e=Sum.elim (fun r=>r) (fun v=>run M (k.eC f o) (bd e ca v)) (Sum.map (ie M f) id (bL (fun i (v:bM ca)=>cP M m xid ca a (bd (bb.put e bU ⟨.int .i64,(i:Int)⟩) ca v) v) 0 (cg (da.den M e)).toNat (b3 _ (dw e ca)))):=by
      show aB.fold M (.ec m xid da bU ca (a.eC f (some fun x=>!(x.bH m)&&(!(x.cI xid)&&oO o x))) (k.eC f o)) e _ none=_;rw[wy,fG,te (ie M f) (fun _ _=>rfl)];rfl
    have eB: ∀v,bL (fun i (v:bM ca)=>cP M m xid ca a (bd (bb.put e bU ⟨.int .i64,(i:Int)⟩) ca v) v) 0 (cg (da.den M e)).toNat (b3 _ (dw e ca))= .inr v→(k.eC f o).safe M (bd e ca v):=fun v av=>by
      simp only[iD]at aj;rw[te (fun _=>()) (fun _ _=>rfl),av]at aj;exact aj
    refine⟨⟨⟨I,i0,fun i v hi av=>?_⟩,?_⟩,?_,fun S ax af=>?_⟩
    · obtain⟨g1,_,g3,_⟩:=key i v hi av
      exact⟨g1,fun bx jA=>g3 bx (sv (by rw[iD]at jA;exact jA))⟩
    · simp only[iD]
      rw[te (fun _=>()) (fun _ _=>rfl)]
      cases av:bL (fun i (v:bM ca)=>cP M m xid ca a (bd (bb.put e bU ⟨.int .i64,(i:Int)⟩) ca v) v) 0 (cg (da.den M e)).toNat (b3 _ (dw e ca))with
      |inl r=>trivial
      |inr v=>exact(jz k o (eB v av)).1
    · rw[cU,It]
      cases av:bL (fun i (v:bM ca)=>cP M m xid ca a (bd (bb.put e bU ⟨.int .i64,(i:Int)⟩) ca v) v) 0 (cg (da.den M e)).toNat (b3 _ (dw e ca))with
      |inl r=>rfl
      |inr v=>exact(jz k o (eB v av)).2.1
    · rw[cU]at af
      cases av:bL (fun i (v:bM ca)=>cP M m xid ca a (bd (bb.put e bU ⟨.int .i64,(i:Int)⟩) ca v) v) 0 (cg (da.den M e)).toNat (b3 _ (dw e ca))with
      |inl r=>
        rw[av]at af
        have af:r=some (.b9,S,ax):=af
        subst af;exact gG _ 0 _ (by omega) i0 S ax av
      |inr v=>
        rw[av]at af;exact(jz k o (eB v av)).2.2 S ax af
  | .eH m xid ca a k,o,e,h=>by
    obtain⟨⟨I,i0,cd⟩,he,aj⟩:=h
    have key: ∀(v:bM ca),I v→a.safe M (bd e ca v)∧
        cP M m xid ca (a.eC f (some fun x=>!(x.bH m)&&(!(x.cI xid)&&oO o x))) (bd e ca v) v=hN (ie M f) (cP M m xid ca a (bd e ca v) v)∧
        (∀bx,cP M m xid ca a (bd e ca v) v= .bn bx→I bx)∧
        ∀S ax,cP M m xid ca a (bd e ca v) v= .ret (some (.b9,S,ax))→(f S).safe M ax∧∀p,o=some p→(f S).fa p=true:=by
      intro v av;obtain⟨s1,s2⟩:=cd v av;obtain⟨bD,a2,a3⟩:=jz a _ s1
      have ah:=PU (m:=m) (xid:=xid) (ca:=ca) (v:=v) a2 fun S ax af=>by
        obtain⟨y,dS,aW,g1,g2⟩:=jy (M:=M) (e:=ax) ((a3 S ax af).2 _ rfl);simp only[Bool.and_eq_true,Bool.not_eq_true']at g2;exact⟨y,dS,aW,g1,g2.1,g2.2.1⟩
      refine⟨bD,ah,fun bx jA=>s2 bx ?_,fun S ax af=>?_⟩
      · rw[iD,ah,jA]
        rfl
      · unfold cP at af
        cases oP:run M a (bd e ca v)with
        |none=>rw[oP]at af;cases af
        |some l=>
          obtain⟨x,dm,y4⟩:=l;rw[oP]at af;simp only at af
          cases hx:x.bH m with
          |true=>rw[nX hx]at af;cases af
          |false=>
            cases az:x.cI xid with
            |true=>rw[nY hx az]at af;cases af
            |false=>
              rw[j5 hx az]at af;cases af;obtain⟨f1,f2⟩:=a3 S ax oP;refine⟨f1,fun p ak=>?_⟩
              subst ak;exact nn (f2 _ rfl) fun x hx=>by simp only[Bool.and_eq_true]at hx;exact hx.2.2
    have rJ:=Is (b:=fun(v:bM ca)=>(a.fold M (bd e ca v) (dY m xid ca fun _ _ _=>()) (.b8 v):Step Unit (bM ca))) (c:=fun(v:bM ca)=>((a.eC f (some fun x=>!(x.bH m)&&(!(x.cI xid)&&oO o x))).fold M (bd e ca v) (dY m xid ca fun _ _ _=>()) (.b8 v):Step Unit (bM ca))) I (fun v av=>by
        obtain⟨_,g2,g3,_⟩:=key v av;refine⟨?_,fun bx jA=>g3 bx ?_⟩
        · rw[iD,iD,g2]
          cases cP M m xid ca a (bd e ca v) v<;>rfl
        · rw[iD]at jA
          exact sv jA) cn _ i0
    rw[rJ.1]at aj
    have he:=rJ.2.1 he
    have fG:=(Is (b:=fun(v:bM ca)=>hN (ie M f) (cP M m xid ca a (bd e ca v) v)) (c:=fun(v:bM ca)=>(a.eC f (some fun x=>!(x.bH m)&&(!(x.cI xid)&&oO o x))).fold M (bd e ca v) (dY m xid ca fun x S e=>some (x,S,e)) (.b8 v)) I (fun v av=>by
        obtain⟨_,g2,g3,_⟩:=key v av;refine⟨?_,fun bx jA=>g3 bx (sv jA)⟩
        rw[wx,g2]) cn _ i0).1
    have gG: ∀(n:Nat) (v:bM ca),I v→∀S ax,b4 (fun(v:bM ca)=>cP M m xid ca a (bd e ca v) v) n v= .inl (some (.b9,S,ax))→(f S).safe M ax∧∀p,o=some p→(f S).fa p=true:=by
      intro n
      induction n with
      |zero=>intro v _ S ax h;cases h
      |succ n aR=>
        intro v av S ax h;obtain⟨_,_,g3,g4⟩:=key v av;simp only[b4]at h
        cases af:cP M m xid ca a (bd e ca v) v with
        |ret r=>rw[af]at h;cases h;exact g4 S ax af
        |b8 bx=>rw[af]at h;cases h
        |bn bx=>rw[af]at h;exact aR bx (g3 bx af) S ax h
    have cU:run M (.eH m xid ca a k) e=Sum.elim (fun r=>r) (fun v=>run M k (bd e ca v)) (b4 (fun(v:bM ca)=>cP M m xid ca a (bd e ca v) v) cn (b3 _ (dw e ca))):=by
      simp only[run,aB.fold,wx]
    have It:run M ((aB.eH m xid ca a k).eC f o) e=Sum.elim (fun r=>r) (fun v=>run M (k.eC f o) (bd e ca v)) (Sum.map (ie M f) id (b4 (fun(v:bM ca)=>cP M m xid ca a (bd e ca v) v) cn (b3 _ (dw e ca)))):=by
      rw[←wu (ie M f) (c:=fun(v:bM ca)=>hN (ie M f) (cP M m xid ca a (bd e ca v) v)) (fun _=>rfl),←fG];rfl
    have eB: ∀v,b4 (fun(v:bM ca)=>cP M m xid ca a (bd e ca v) v) cn (b3 _ (dw e ca))= .inr v→(k.eC f o).safe M (bd e ca v):=fun v av=>by
      simp only[iD]at aj;rw[wu (fun _=>()) (fun _=>rfl),av]at aj;exact aj
    refine⟨⟨⟨I,i0,fun v av=>?_⟩,he,?_⟩,?_,fun S ax af=>?_⟩
    · obtain⟨g1,_,g3,_⟩:=key v av
      exact⟨g1,fun bx jA=>g3 bx (sv (by rw[iD]at jA;exact jA))⟩
    · simp only[iD]
      rw[wu (fun _=>()) (fun _=>rfl)]
      cases av:b4 (fun(v:bM ca)=>cP M m xid ca a (bd e ca v) v) cn (b3 _ (dw e ca))with
      |inl r=>trivial
      |inr v=>exact(jz k o (eB v av)).1
    · rw[cU,It]
      cases av:b4 (fun(v:bM ca)=>cP M m xid ca a (bd e ca v) v) cn (b3 _ (dw e ca))with
      |inl r=>rfl
      |inr v=>exact(jz k o (eB v av)).2.1
    · rw[cU]at af
      cases av:b4 (fun(v:bM ca)=>cP M m xid ca a (bd e ca v) v) cn (b3 _ (dw e ca))with
      |inl r=>
        rw[av]at af
        have af:r=some (.b9,S,ax):=af
        subst af;exact gG _ _ i0 S ax av
      |inr v=>
        rw[av]at af;exact(jz k o (eB v av)).2.2 S ax af
  | .bad _,_,_,h=>h.elim
end
end Go.aM
namespace Go.aM
open Go
theorem q9(G:a7)(e:Env)(l:bb ab): ∀(n i j:Nat),(j4 G e l i n)[j]? =if j<n then some (match l.get (i+j)with|some x=>x.den G e|none=>.top)else none
 |0,_,_=>by simp[j4]
 |n+1,i,0=>by simp only[j4,List.getElem?_cons_zero,Nat.add_zero,Nat.zero_lt_succ,if_true];rfl
 |n+1,i,j+1=>by
  simp only[j4,List.getElem?_cons_succ,q9 G e l n (i+1) j]
  rw[show i+1+j=i+(j+1)by omega]
  simp
theorem Iu(G:a7)(e:Env)(l:bb ab): ∀(n i:Nat),(j4 G e l i n).length=n
 |0,_=>rfl
 |n+1,i=>by simp[j4,Iu G e l n (i+1)]
theorem uF(G:a7)(N B:Nat)(e:Env)(S:ar)(j:Nat):(S.den G N B e).cE[j]? =if j<N then some ((S.at j).den G e)else none:=by
 simp only[ar.den,q9,Nat.zero_add]
 by_cases h:j<N
 ·simp only[h,if_true,Option.some.injEq]
  unfold ar.at
  cases S.l.get j<;>rfl
 ·simp[h]
def zd:ab→ab→Bool
 | .bl r i,.bl q j=>Nat.beq i j&&jx r q
 | .fd c i k r,.fd d j m q=>(Nat.beq i j&&Nat.beq k m)&&(decide (c=d)&&jx r q)
 |_,_=>false
theorem Iv{x y:ab}(h:zd x y=true):x=y:=by
 unfold zd at h
 split at h
 ·simp only[Bool.and_eq_true]at h
  rw[Nat.eq_of_beq_eq_true h.1,iB h.2]
 ·simp only[Bool.and_eq_true,decide_eq_true_eq]at h
  rw[Nat.eq_of_beq_eq_true h.1.1,Nat.eq_of_beq_eq_true h.1.2,h.2.1,iB h.2.2]
 ·cases h
def lj(g:ab):List bX→Option Bool
 |[]=>none
 | .dP h b::r=>match zd h g with
  |true=>some b
  |false=>lj g r
 |_::r=>lj g r
theorem pN{e:Env}{g:ab}{b:Bool}: ∀{l:List bX},lj g l=some b→(∀c∈l,c.ok e)→g.aH e .bool=b
 | .dP h b'::r,aj,hc=>by
  simp only[lj]at aj
  split at aj
  ·rename_i ag
   cases aj;rw[←Iv ag];exact hc (.dP h b) (by simp)
  ·exact pN aj fun c hm=>hc c (by simp[hm])
 | .d1 _ _ _::r,aj,hc=>pN (l:=r) aj fun c hm=>hc c (by simp[hm])
 | .d2 _ _ _ _::r,aj,hc=>pN (l:=r) aj fun c hm=>hc c (by simp[hm])
 | .rg _ _::r,aj,hc=>pN (l:=r) aj fun c hm=>hc c (by simp[hm])
def ab.res(l:List bX):ab→ab
 | .fr g b v=>match lj g l with
  |some c=>match decide (c=b)with
   |true=>v.res l
   |false=>.tp []
  |none=>.fr g b (v.res l)
 | .e4 g id off=>match lj g l,id with
  |some true,some id=>.dD id off
  |some false,_=>.cs (.pointer none)
  |_,_=>.e4 g id off
 |x=>x
theorem PW{l:List bX}{g v:ab}{b:Bool}:(ab.fr g b v).res l=match lj g l with
 |some c=>match decide (c=b)with
  |true=>v.res l
  |false=>.tp []
 |none=>.fr g b (v.res l):=by rw[ab.res]
theorem PX{l:List bX}{g:ab}{id:Option Nat}{off:Nat}:(ab.e4 g id off).res l=match lj g l,id with
 |some true,some id=>.dD id off
 |some false,_=>.cs (.pointer none)
 |_,_=>.e4 g id off:=by
 cases aj:lj g l with
 |none=>simp only[ab.res,aj]
 |some b=>cases b<;>cases id<;>simp only[ab.res,aj]
theorem Iw{G:a7}{e:Env}{l:List bX}(hc: ∀c∈l,c.ok e): ∀{x:ab},(x.res l).den G e=x.den G e
 | .fr g b v=>by
  have aR:=Iw (G:=G) hc (x:=v)
  rw[PW]
  split
  ·rename_i c aj
   have:=pN aj hc
   split
   ·rename_i hd
    have hd:=of_decide_eq_true hd
    subst hd;rw[aR];simp only[ab.den,this]
    cases c<;>rfl
   ·rename_i hd
    have hd:=of_decide_eq_false hd
    simp only[ab.den,this]
    cases c<;>cases b<;>first|rfl|exact absurd rfl hd
  ·simp only[ab.den,aR]
 | .bl _ _=>rfl
 | .fd _ _ _ _=>rfl
 | .cs _=>rfl
 | .ip _ _ _=>rfl
 | .cF _=>rfl
 | .tp _=>rfl
 | .dD _ _=>rfl
 | .gy _ _ _=>rfl
 | .aP _=>rfl
 | .fn _ _ _=>rfl
 | .iX _=>rfl
 | .lM _ _=>rfl
 | .gF _ _ _ _=>rfl
 | .cz _ _=>rfl
 | .e4 g id off=>by
  rw[PX]
  cases aj:lj g l with
  |none=>rfl
  |some c=>
   have:=pN aj hc
   cases c with
   |true=>cases id with
    |none=>rfl
    |some id=>simp only[ab.den,this]
   |false=>simp only[ab.den,this]
 | .top=>rfl
theorem Ix{l:List bX}{k:Nat}: ∀{x:ab},x.lt k=true→(x.res l).lt k=true
 | .fr g b v,h=>by
  simp only[ab.lt,Bool.and_eq_true]at h;rw[PW]
  split
  ·split
   ·exact Ix h.2
   ·rfl
  ·simp only[ab.lt,h.1,Ix h.2,Bool.and_self]
 | .bl _ _,h=>h
 | .fd _ _ _ _,h=>h
 | .cs _,h=>h
 | .ip _ _ _,h=>h
 | .cF _,h=>h
 | .tp _,h=>h
 | .dD _ _,h=>h
 | .gy _ _ _,h=>h
 | .aP _,h=>h
 | .fn _ _ _,h=>h
 | .iX _,h=>h
 | .lM _ _,h=>h
 | .gF _ _ _ _,h=>h
 | .cz _ _,h=>h
 | .e4 g id off,h=>by
  rw[PX]
  cases lj g l with
  |none=>exact h
  |some c=>cases c with
   |true=>cases id with
    |none=>exact h
    |some id=>rfl
   |false=>rfl
 | .top,h=>h
def ar.a6(N:Nat)(S:ar):Operand→ab
 | .tmp t=>match Nat.blt t N with
  |true=>(S.at t).res S.g
  |false=>.top
 | .const v=>match v.oneCell' with
  |true=>.cs v
  |false=>.top
 | .global g=>.lM g 0
 | .func f=>.fn (.func f) [] []
section
variable {G:a7} {N B:Nat} {e:Env} {S:ar}
theorem bJ(hf: ∀c∈S.g,c.ok e)(x:Operand):aJ G (S.den G N B e) x=(S.a6 N x).den G e:=by
 cases x with
 |tmp t=>
  simp only[aJ,ar.a6,List.getD_eq_getElem?_getD,uF]
  cases h:Nat.blt t N with
  |true=>
   have:t<N:=e2 h
   simp[this,Iw hf]
  |false=>
   have: ¬t<N:=fun h'=>by rw[jM h']at h;cases h
   simp[this,ab.den]
 |const v=>
  simp only[aJ,ar.a6]
  cases v.oneCell'<;>simp[ab.den]
 |global g=>
  simp only[aJ,ar.a6,ab.den]
  cases G g with
  |none=>rfl
  |some l=>simp
 |func f=>simp[aJ,ar.a6,ab.den,ab.bR]
def ar.put(S:ar)(dst:Option Nat)(v:ab):ar:=
 match dst with
 |some d=>{S with l:=S.l.put d v}
 |none=>S
theorem Iy(d:Nat)(v:ab)(l:bb ab):j4 G e (l.put d v) 0 N=(j4 G e l 0 N).set d (v.den G e):=by
 apply List.ext_getElem?
 intro j
 rw[q9,List.getElem?_set,q9,Iu,Nat.zero_add,bb.j1]
 by_cases hd:d=j
 ·subst hd
  by_cases ai:d<N<;>simp[ai]
 ·simp[hd]
theorem fC(dst:Option Nat)(v:ab):(S.put dst v).den G N B e=(S.den G N B e).put dst (v.den G e):=by
 cases dst with
 |none=>rfl
 |some d=>simp only[ar.put,ar.den,aN.put,Iy]
theorem eR: ∀(h:List (Nat × bE)) (id:Nat),aF (cM G e h) id=(dq h id).map (bE.den G e)
 |[],_=>rfl
 |(i,o)::r,id=>by
  simp only[cM,aF,dq,pL]
  by_cases h:i=id
  ·simp[h]
  ·simp only[h,if_false,decide_false]
   exact eR r id
theorem uG: ∀(h:List (Nat × bE)) (id:Nat) (o:bE),cM G e (kI h id o)=e3 (cM G e h) id (o.den G e)
 |[],_,_=>rfl
 |(i,p)::r,id,o=>by
  simp only[kI,cM,e3,pL]
  by_cases h:i=id
  ·simp[h,cM]
  ·simp only[h,decide_false,if_false,cM,uG r id o]
end
def bE.lt(k:Nat):bE→Bool
 | .dc _ l=>ab.cD k l
 | .rw _ _ x=>x.lt k
 | .it x p=>x.lt k&&p.lt k
def eI(k:Nat):List (Nat × bE)→Bool
 |[]=>true
 |(_,o)::r=>o.lt k&&eI k r
def bX.lt(k:Nat):bX→Bool
 | .d1 i _ x=>Nat.blt i k&&x.lt k
 | .d2 i _ x y=>Nat.blt i k&&(x.lt k&&y.lt k)
 | .rg i b=>Nat.blt i k&&b.lt k
 | .dP g _=>g.lt k
def e5(k:Nat):List bX→Bool
 |[]=>true
 |c::r=>c.lt k&&e5 k r
structure ar.cw (S:ar):Prop where
 l: ∀i x,S.l.get i=some x→x.lt S.k=true
 h:eI S.k S.h=true
 g:e5 S.k S.g=true
mutual
theorem gp{k m:Nat}(h:k≤m): ∀{x:ab},x.lt k=true→x.lt m=true:=fun {x} hx=>by
 cases x with
 |bl r i=>exact jM (Nat.lt_of_lt_of_le (e2 hx) h)
 |fd c i j r=>exact jM (Nat.lt_of_lt_of_le (e2 (i:=i) hx) h)
 |ip c i j=>exact jM (Nat.lt_of_lt_of_le (e2 (i:=i) hx) h)
 |cF l=>exact wA (l:=l) h hx
 |tp l=>exact wA (l:=l) h hx
 |gy id x off=>exact gp (x:=x) h hx
 |gF id off x n=>exact gp (x:=x) h hx
 |e4 g id off=>exact gp (x:=g) h hx
 |fn f a b=>
  simp only[ab.lt,Bool.and_eq_true]at hx⊢;exact⟨wA h hx.1,wA h hx.2⟩
 |fr g b x=>
  simp only[ab.lt,Bool.and_eq_true]at hx⊢;exact⟨gp h hx.1,gp h hx.2⟩
 |_=>rfl
theorem wA{k m:Nat}(h:k≤m): ∀{l:List ab},ab.cD k l=true→ab.cD m l=true:=fun {l} ao=>by
 match l with
 |[]=>rfl
 |x::r=>
  simp only[ab.cD,Bool.and_eq_true]at ao⊢;exact⟨gp h ao.1,wA h ao.2⟩
end
theorem uH{k m:Nat}(h:k≤m): ∀{l:List (Nat × bE)},eI k l=true→eI m l=true
 |[],_=>rfl
 |(_,o)::r,ao=>by
  simp only[eI,Bool.and_eq_true]at ao⊢;refine⟨?_,uH h ao.2⟩
  cases o with
  |dc t l=>exact wA h (l:=l) ao.1
  |rw t c x=>exact gp h (x:=x) ao.1
  |it x p=>
   have aa:=ao.1
   simp only[bE.lt,Bool.and_eq_true]at aa⊢;exact⟨gp h aa.1,gp h aa.2⟩
theorem oQ{k m:Nat}(h:k≤m): ∀{l:List bX},e5 k l=true→e5 m l=true
 |[],_=>rfl
 |c::r,ao=>by
  simp only[e5,Bool.and_eq_true]at ao⊢;refine⟨?_,oQ h ao.2⟩
  cases c with
  |d1 i f x=>
   have:=ao.1
   simp only[bX.lt,Bool.and_eq_true]at this⊢;exact⟨jM (Nat.lt_of_lt_of_le (e2 this.1) h),gp h this.2⟩
  |d2 i f x y=>
   have:=ao.1
   simp only[bX.lt,Bool.and_eq_true]at this⊢;exact⟨jM (Nat.lt_of_lt_of_le (e2 this.1) h),gp h this.2.1,gp h this.2.2⟩
  |rg i b=>
   have:=ao.1
   simp only[bX.lt,Bool.and_eq_true]at this⊢;exact⟨jM (Nat.lt_of_lt_of_le (e2 this.1) h),gp h this.2⟩
  |dP g b=>exact gp h (x:=g) ao.1
section
variable {G:a7} {N B:Nat} {e ax:Env} {S:ar} {k:Nat}
theorem ze(h:bZ k e ax): ∀{l:List (Nat × bE)},eI k l=true→cM G ax l=cM G e l
 |[],_=>rfl
 |(_,o)::r,ao=>by
  simp only[eI,Bool.and_eq_true]at ao;simp only[cM,ze h ao.2]
  congr 2
  cases o with
  |dc t l=>simp only[bE.den,wj h (l:=l) ao.1]
  |rw t c x=>simp only[bE.den,ft h (x:=x) ao.1]
  |it x p=>
   have aa:=ao.1
   simp only[bE.lt,Bool.and_eq_true]at aa;simp only[bE.den,ft h (x:=x) aa.1,ft h (x:=p) aa.2]
theorem ll(h:bZ S.k e ax)(ae:S.cw):S.den G N B ax=S.den G N B e:=by
 simp only[ar.den,aN.mk.injEq,and_true,true_and]
 refine⟨?_,ze h ae.h⟩
 apply List.ext_getElem?
 intro j
 rw[q9,q9]
 by_cases ai:j<N
 ·simp only[ai,if_true,Option.some.injEq]
  cases ah:S.l.get (0+j)with
  |none=>rfl
  |some x=>exact so h (ae.l _ x ah)
 ·simp[ai]
theorem ig(h:bZ k e ax): ∀{l:List bX},e5 k l=true→(∀c∈l,c.ok e)→∀c∈l,c.ok ax
 |[],_,_,_,hc=>by cases hc
 |d::r,ao,hf,c,hc=>by
  simp only[e5,Bool.and_eq_true]at ao
  rcases List.mem_cons.1 hc with rfl|hc
  ·have aU:=hf c (by simp)
   cases c with
   |d1 i f x=>
    have aa:=ao.1
    simp only[bX.lt,Bool.and_eq_true]at aa;simp only[bX.ok]at aU⊢;rw[h i (e2 aa.1),ft h aa.2];exact aU
   |d2 i f x y=>
    have aa:=ao.1
    simp only[bX.lt,Bool.and_eq_true]at aa;simp only[bX.ok]at aU⊢;rw[h i (e2 aa.1),ft h aa.2.1,ft h aa.2.2];exact aU
   |rg i b=>
    have aa:=ao.1
    simp only[bX.lt,Bool.and_eq_true]at aa;simp only[bX.ok]at aU⊢;rw[h i (e2 aa.1),sn h aa.2];exact aU
   |dP g b=>
    simp only[bX.ok]at aU⊢;rw[ft h (x:=g) ao.1];exact aU
  ·exact ig h ao.2 (fun c hc=>hf c (by simp[hc])) c hc
theorem zf(ae:S.cw)(x:Operand):(S.a6 N x).lt S.k=true:=by
 cases x with
 |tmp t=>
  simp only[ar.a6]
  split
  ·refine Ix ?_
   unfold ar.at
   split
   ·rename_i x hx;exact ae.l _ x hx
   ·rfl
  ·rfl
 |const v=>simp only[ar.a6];split<;>rfl
 |global g=>rfl
 |func f=>rfl
end
def bS.lt(k:Nat):bS→Bool
 | .q4 _ x=>x.lt k
 | .f1 _ x=>x.lt k
 | .f2 _ x y=>x.lt k&&y.lt k
 | .eX _ x lo hi=>x.lt k&&(ab.cD k lo.toList&&ab.cD k hi.toList)
 | .uD x lo hi=>x.lt k&&(ab.cD k lo.toList&&ab.cD k hi.toList)
 | .Cx _ g x y=>g.lt k&&(x.lt k&&y.lt k)
 | .y9 _ _ l m=>ab.cD k l&&ab.cD k m
 | .wq _ l=>ab.cD k l
 | .up _ l i x=>l.lt k&&(i.lt k&&x.lt k)
 | .nth _ l i=>ab.cD k l&&i.lt k
 | .Cy _ x=>x.lt k
 | .ca _ l=>ab.cD k l
 | .uE _ p _=>Nat.blt p k
section
variable {e ax:Env} {k:Nat}
theorem wB(h:bZ k e ax): ∀{rs:List aZ} {l:List ab},ab.cD k l=true→gm ax rs l=gm e rs l
 |[],_,_=>by simp[gm]
 |_::_,[],_=>by simp[gm]
 |r::rs,x::xs,hx=>by
  simp only[ab.cD,Bool.and_eq_true]at hx;simp only[gm,wi h hx.1,wB h hx.2]
theorem CA(h:bZ k e ax){o:Option ab}(an:ab.cD k o.toList=true):nV ax o=nV e o:=by
 cases o with
 |none=>rfl
 |some x=>
  simp only[Option.toList,ab.cD,Bool.and_true]at an;simp only[nV,sn h an]
theorem PY(h:bZ k e ax): ∀{rs:List aZ} {l m:List ab},ab.cD k l=true→ab.cD k m=true→kH ax rs l m=kH e rs l m
 |[r],[x],[y],ao,hm=>by
  simp only[ab.cD,Bool.and_eq_true]at ao hm;simp only[kH,ft h ao.1,ft h hm.1]
 |r::s::rs,x::xs,y::ys,ao,hm=>by
  simp only[ab.cD,Bool.and_eq_true]at ao hm
  have:=PY h (rs:=s::rs) ao.2 hm.2
  cases xs<;>cases ys<;>simp only[kH,ft h ao.1,ft h hm.1,this]
 |[r],x::lb::xs,y::ys,ao,hm=>by
  simp only[ab.cD,Bool.and_eq_true]at ao hm;simp only[kH,ft h ao.1,ft h hm.1]
 |[r],[x],y::sh::ys,ao,hm=>by
  simp only[ab.cD,Bool.and_eq_true]at ao hm;simp only[kH,ft h ao.1,ft h hm.1]
 |[],_,_,_,_=>by simp[kH]
 |_::_,[],_,_,_=>by simp[kH]
 |_::_,_::_,[],_,_=>by simp[kH]
theorem PZ(h:bZ k e ax){c:bO}: ∀{l:List ab},ab.cD k l=true→nW ax c l=nW e c l
 |[],_=>rfl
 |x::r,ao=>by
  simp only[ab.cD,Bool.and_eq_true]at ao;simp only[nW,wi h ao.1,PZ h ao.2]
theorem P0(h:bZ k e ax){r:aZ}: ∀{l:List ab} {n:Nat},ab.cD k l=true→ss ax r l n=ss e r l n
 |[],_,_=>rfl
 |[x],_,ao=>by
  simp only[ab.cD,Bool.and_eq_true]at ao;simp only[ss,ft h ao.1]
 |x::y::l,n,ao=>by
  simp only[ab.cD,Bool.and_eq_true]at ao
  have:=P0 h (l:=y::l) (n:=n-1) (r:=r) (by simp only[ab.cD,Bool.and_eq_true];exact ao.2)
  simp only[ss,ft h ao.1,this]
theorem ZM(M:List a1)(h:bZ k e ax){x:bS}(hx:x.lt k=true):x.den M ax=x.den M e:=by
 cases x with
 |q4 r x=>simp only[bS.den,wi h (x:=x) hx]
 |f1 f x=>simp only[bS.den,ft h (x:=x) hx]
 |f2 f x y=>
  simp only[bS.lt,Bool.and_eq_true]at hx;simp only[bS.den,ft h hx.1,ft h hx.2]
 |eX c x lo hi=>
  simp only[bS.lt,Bool.and_eq_true]at hx;simp only[bS.den,ft h hx.1,CA h hx.2.1,CA h hx.2.2]
 |uD x lo hi=>
  simp only[bS.lt,Bool.and_eq_true]at hx;simp only[bS.den,ft h hx.1,CA h hx.2.1,CA h hx.2.2]
 |Cx r g x y=>
  simp only[bS.lt,Bool.and_eq_true]at hx;simp only[bS.den,ft h hx.1,wi h hx.2.1,wi h hx.2.2]
 |y9 n rs l m=>
  simp only[bS.lt,Bool.and_eq_true]at hx;simp only[bS.den,PY h hx.1 hx.2]
 |wq c l=>simp only[bS.den,PZ h (l:=l) hx]
 |Cy c x=>simp only[bS.den,ft h (x:=x) hx]
 |up c l i x=>
  simp only[bS.lt,Bool.and_eq_true]at hx;simp only[bS.den,ft h hx.1,sn h hx.2.1,wi h hx.2.2]
 |nth r l i=>
  simp only[bS.lt,Bool.and_eq_true]at hx;simp only[bS.den,P0 h hx.1,sn h hx.2]
 |ca j l=>simp only[bS.den,wB h (l:=l) hx]
 |uE rs p i=>simp only[bS.den,h p (e2 hx)]
end
end Go.aM
namespace Go.aM
open Go
section
variable {P:Program} {G:a7} {o:Oper} {s:aN}
theorem cV.sub{v bx:aE}(h:cV P G o s v)(ag:Sub v bx):cV P G o s bx:=fun E a w β ro af=>by
 obtain⟨c,aa,ad⟩:=h E a w β ro af
 exact⟨c,aa,ag _ _ _ _ _ _ ad⟩
def Iz(op:BinOp)(k br:IntKind):Bool:=
 match op with
 | .add=>decide (k=br)
 | .sub=>decide (k=br)
 | .mul=>decide (k=br)
 | .quo=>decide (k=br)
 | .rem=>decide (k=br)
 | .and=>decide (k=br)
 | .or=>decide (k=br)
 | .xor=>decide (k=br)
 | .shl=>true
 | .shr=>true
 |_=>false
def wC:BinOp→Bool
 | .eql=>true
 | .neq=>true
 | .lss=>true
 | .leq=>true
 | .gtr=>true
 | .geq=>true
 |_=>false
theorem ZN{op:BinOp}{cl ty:TypeId}{x y:Operand}{k br:IntKind}{a b:Int}(an:o.op= .binOp op cl x y ty)(hx:aJ G s x= .au (.v (.int k a)))(az:aJ G s y= .au (.v (.int br b)))(h:Iz op k br=true)(hn:Cw op b):
 cV P G o s (.au (.v (.int k (ba op k a b)))):=by
 cases op<;>simp only[Iz,Bool.false_eq_true,decide_eq_true_eq]at h
 case add=>subst h;exact oA _ cl ty x y an hx az (by simp[jU,ba])
 case sub=>subst h;exact oA _ cl ty x y an hx az (by simp[jU,ba])
 case mul=>subst h;exact oA _ cl ty x y an hx az (by simp[jU,ba])
 case quo=>subst h;exact oA _ cl ty x y an hx az (by have: ¬b=0:=hn;simp[jU,ba,this])
 case rem=>subst h;exact oA _ cl ty x y an hx az (by have: ¬b=0:=hn;simp[jU,ba,this])
 case and=>subst h;exact wc cl ty x y an hx az fun w=>by simp[binOp,Op.intBits,ba,aM.lr]
 case or=>subst h;exact wc cl ty x y an hx az fun w=>by simp[binOp,Op.intBits,ba,aM.kQ]
 case xor=>subst h;exact wc cl ty x y an hx az fun w=>by simp[binOp,Op.intBits,ba,aM.jk]
 case shl=>exact oA _ cl ty x y an hx az (by have hn:0≤b:=hn;have: ¬b<0:=(by omega);simp[jU,ba,this])
 case shr=>exact oA _ cl ty x y an hx az (by have hn:0≤b:=hn;have: ¬b<0:=(by omega);simp[jU,ba,this])
theorem ZO{op:BinOp}{cl ty:TypeId}{x y:Operand}{k:IntKind}{a b:Int}(an:o.op= .binOp op cl x y ty)(hx:aJ G s x= .au (.v (.int k a)))(az:aJ G s y= .au (.v (.int k b)))(h:wC op=true):
 cV P G o s (.au (.v (.bool (y8 op a b)))):=by
 cases op<;>simp only[wC,Bool.false_eq_true]at h
 all_goals exact oA _ cl ty x y an hx az (by simp[jU,BW,y8])
theorem ZP{op:BinOp}{cl ty:TypeId}{x y:Operand}{a b:ByteArray}(an:o.op= .binOp op cl x y ty)(hx:aJ G s x= .au (.v (.string a)))(az:aJ G s y= .au (.v (.string b)))(h:wC op=true):
 cV P G o s (.au (.v (.bool (a8 op a b)))):=by
 cases op<;>simp only[wC,Bool.false_eq_true]at h
 all_goals exact oA _ cl ty x y an hx az (by simp[jU,a8])
def zg(G:a7)(s:aN)(o:Option Operand)(z:Option Int):Prop:=
 match o,z with
 |none,none=>True
 |some y,some z=>∃k,aJ G s y= .au (.v (.int k z))
 |_,_=>False
theorem P1(i:bO)(ls:List (gh i)){t:TypeId}{x:Operand}{lo hi:Option Operand}{oR lO:Option Int}(an:o.op= .slice t x lo hi none)(aG:jV P t=some (c8 i))(hx:aJ G s x= .au (.li i ls))(aA:zg G s lo oR)(aW:zg G s hi lO)
 (hn:er ls.length oR lO):ml P G o s (.au (.li i (PQ ls oR lO))):=by
 cases lo with
 |none=>
  cases oR with
  |some _=>exact aA.elim
  |none=>
  cases hi with
  |none=>
   cases lO with
   |some _=>exact aW.elim
   |none=>
   have:=Ct i ls (l:=0) (h:=ls.length) an aG hx (.inl ⟨rfl,rfl⟩) (.inl ⟨rfl,rfl⟩) (Nat.zero_le _) (Nat.le_refl _)
   rw[List.take_length,List.drop_zero]at this;exact this
  |some y=>
   cases lO with
   |none=>exact aW.elim
   |some h=>
   obtain⟨k,az⟩:=aW
   have hn:0≤h∧h≤(ls.length:Int):=hn
   obtain⟨n,rfl⟩: ∃n:Nat,h=(n:Int):=⟨h.toNat,by omega⟩
   have:=Ct i ls (l:=0) (h:=n) an aG hx (.inl ⟨rfl,rfl⟩) (.inr ⟨y,k,rfl,az⟩) (Nat.zero_le _) (by omega)
   rw[List.drop_zero]at this;exact this
 |some y=>
  cases oR with
  |none=>exact aA.elim
  |some a=>
  obtain⟨k,az⟩:=aA
  cases hi with
  |none=>
   cases lO with
   |some _=>exact aW.elim
   |none=>
   have hn:0≤a∧a≤(ls.length:Int):=hn
   obtain⟨n,rfl⟩: ∃n:Nat,a=(n:Int):=⟨a.toNat,by omega⟩
   have:=Ct i ls (l:=n) (h:=ls.length) an aG hx (.inr ⟨y,k,rfl,az⟩) (.inl ⟨rfl,rfl⟩) (by omega) (Nat.le_refl _)
   rw[List.take_length]at this;exact this
  |some ra=>
   cases lO with
   |none=>exact aW.elim
   |some h=>
   obtain⟨ix,IA⟩:=aW
   have hn:0≤a∧a≤h∧h≤(ls.length:Int):=hn
   obtain⟨n,rfl⟩: ∃n:Nat,a=(n:Int):=⟨a.toNat,by omega⟩
   obtain⟨m,rfl⟩: ∃n:Nat,h=(n:Int):=⟨h.toNat,by omega⟩
   exact Ct i ls (l:=n) (h:=m) an aG hx (.inr ⟨y,k,rfl,az⟩) (.inr ⟨ra,ix,rfl,IA⟩) (by omega) (by omega)
theorem ZQ(b:ByteArray){t:TypeId}{x:Operand}{lo hi:Option Operand}{oR lO:Option Int}(an:o.op= .slice t x lo hi none)(aG:P.underlying t=some .string)(hx:aJ G s x= .au (.v (.string b)))(aA:zg G s lo oR)(aW:zg G s hi lO)
 (hn:er b.size oR lO):cV P G o s (.au (.v (.string (bk b oR lO)))):=by
 cases lo with
 |none=>
  cases oR with
  |some _=>exact aA.elim
  |none=>
  cases hi with
  |none=>
   cases lO with
   |some _=>exact aW.elim
   |none=>exact Cc t x none none an aG hx (l:=0) (h:=b.size) (.inl ⟨rfl,rfl⟩) (.inl ⟨rfl,rfl⟩) (Nat.zero_le _) (Nat.le_refl _)
  |some y=>
   cases lO with
   |none=>exact aW.elim
   |some h=>
   obtain⟨k,az⟩:=aW
   have hn:0≤h∧h≤(b.size:Int):=hn
   obtain⟨n,rfl⟩: ∃n:Nat,h=(n:Int):=⟨h.toNat,by omega⟩
   exact Cc t x none _ an aG hx (l:=0) (h:=n) (.inl ⟨rfl,rfl⟩) (.inr ⟨y,k,rfl,az⟩) (Nat.zero_le _) (by omega)
 |some y=>
  cases oR with
  |none=>exact aA.elim
  |some a=>
  obtain⟨k,az⟩:=aA
  cases hi with
  |none=>
   cases lO with
   |some _=>exact aW.elim
   |none=>
   have hn:0≤a∧a≤(b.size:Int):=hn
   obtain⟨n,rfl⟩: ∃n:Nat,a=(n:Int):=⟨a.toNat,by omega⟩
   exact Cc t x _ none an aG hx (l:=n) (h:=b.size) (.inr ⟨y,k,rfl,az⟩) (.inl ⟨rfl,rfl⟩) (by omega) (Nat.le_refl _)
  |some ra=>
   cases lO with
   |none=>exact aW.elim
   |some h=>
   obtain⟨ix,IA⟩:=aW
   have hn:0≤a∧a≤h∧h≤(b.size:Int):=hn
   obtain⟨n,rfl⟩: ∃n:Nat,a=(n:Int):=⟨a.toNat,by omega⟩
   obtain⟨m,rfl⟩: ∃n:Nat,h=(n:Int):=⟨h.toNat,by omega⟩
   exact Cc t x _ _ an aG hx (l:=n) (h:=m) (.inr ⟨y,k,rfl,az⟩) (.inr ⟨ra,ix,rfl,IA⟩) (by omega) (by omega)
end
def CB(P:Program)(t:TypeId):Option aZ:=
 match P.underlying t with
 |some (.int k)=>some (.int k)
 |some .bool=>some .bool
 |some .string=>some .str
 |_=>none
def oS(P:Program):Nat→Nat→List Field→Option (List aZ)
 |0,_,_=>none
 |_+1,_,[]=>some []
 |d+1,k,f::fs=>
  if f.name= "_" ||f.offset != k then none
  else match mX P f.type with
   |some gs=>match P.info? f.type with
    |some inf=>match oS P d 0 gs,oS P d (k+inf.size) fs with
     |some a,some b=>match Nat.beq a.length inf.size with
      |true=>some (a++b)
      |false=>none
     |_,_=>none
    |none=>none
   |none=>match CB P f.type with
    |some r=>match oS P d (k+1) fs with
     |some l=>some (r::l)
     |none=>none
    |none=>none
def sw:(r:aZ)→r.den→Value
 | .int k,n=>.int k n
 | .bool,b=>.bool b
 | .str,x=>.string x
 |_,_=>undef
def aZ.cmp:aZ→Bool
 | .int _=>true
 | .bool=>true
 | .str=>true
 |_=>false
def zh(d:aD):Value:=sw d.r d.v
def np:List aD→List aD→Bool
 |d::ds,c::cs=>q5 d.r d.v (c.as d.r)&&np ds cs
 |_,_=>true
theorem ZR{P:Program}{t:TypeId}{r:aZ}(h:CB P t=some r)(x y:r.den):qO P t (sw r x)=true∧mW (sw r x) (sw r y)=some (q5 r x y):=by
 unfold CB at h
 split at h
 ·rename_i k hu;cases h;simp[sw,qO,hu,mW,q5]
 ·rename_i hu;cases h;simp[sw,qO,hu,mW,q5]
 ·rename_i hu;cases h;simp[sw,qO,hu,mW,q5]
 ·cases h
theorem P2: ∀{a c:List aD} (b d:List aD),a.length=c.length→np (a++b) (c++d)=(np a c&&np b d)
 |[],[],_,_,_=>by simp[np]
 |x::a,y::c,b,d,h=>by
  simp only[List.cons_append,np,P2 (a:=a) (c:=c) b d (by simpa using h),Bool.and_assoc]
 |[],_::_,_,_,h=>by cases h
 |_::_,[],_,_,h=>by cases h
theorem CC{P:Program}: ∀(d k:Nat) (fs:List Field) (rs:List aZ),oS P d k fs=some rs→∀(as cz:List aD),as.map aD.r=rs→cz.map aD.r=rs→pz P d k fs (as.map zh) (cz.map zh)=some (np as cz)
 |0,_,_,_,h,_,_,_,_=>by cases h
 |d+1,k,[],rs,h,as,cz,aI,ae=>by
  simp only[oS,Option.some.injEq]at h;subst h
  cases mi aI
  cases mi ae
  rfl
 |d+1,k,f::fs,rs,h,as,cz,aI,ae=>by
  simp only[oS]at h;simp only[pz]
  split at h
  ·cases h
  ·rename_i hc
   rw[if_neg hc]
   cases ag:mX P f.type with
   |some gs=>
    rw[ag]at h;simp only at h⊢
    cases hi:P.info? f.type with
    |none=>rw[hi]at h;cases h
    |some inf=>
     rw[hi]at h;simp only at h⊢
     split at h
     ·rename_i u v aa ad
      split at h
      ·rename_i ao
       simp only[Option.some.injEq]at h;subst h
       have ao:=Nat.eq_of_beq_eq_true ao
       have P3:(as.take inf.size).map aD.r=u:=by rw[List.map_take,aI,←ao,List.take_left]
       have ZS:(as.drop inf.size).map aD.r=v:=by rw[List.map_drop,aI,←ao,List.drop_left]
       have tb:(cz.take inf.size).map aD.r=u:=by rw[List.map_take,ae,←ao,List.take_left]
       have ZT:(cz.drop inf.size).map aD.r=v:=by rw[List.map_drop,ae,←ao,List.drop_left]
       rw[←List.map_take,←List.map_take,←List.map_drop,←List.map_drop,CC d 0 gs u aa _ _ P3 tb,CC d _ fs v ad _ _ ZS ZT];simp only[Option.some.injEq];rw[←P2 _ _ (by have aa:=congrArg List.length P3;have ad:=congrArg List.length tb;simp only[List.length_map]at aa ad;omega),List.take_append_drop,List.take_append_drop]
      ·cases h
     ·cases h
   |none=>
    rw[ag]at h;simp only at h⊢
    split at h
    ·rename_i r af
     split at h
     ·rename_i l ao
      simp only[Option.some.injEq]at h;subst h;obtain⟨a,zdL,rfl,P4,xC⟩:=lL aI;obtain⟨b,zdM,rfl,iz,pE⟩:=lL ae;obtain⟨zdN,bl⟩:=a;obtain⟨zdO,kk⟩:=b;simp only at P4 iz;subst P4;subst iz;obtain⟨g1,g2⟩:=ZR af bl kk;simp only[List.map_cons,zh,g1,g2,if_true,np,cT];rw[CC d _ fs l ao _ _ xC pE]
     ·cases h
    ·cases h
theorem CD{P:Program}: ∀(d k:Nat) (fs:List Field) (rs:List aZ),oS P d k fs=some rs→∀r∈rs,r.cmp=true
 |0,_,_,_,h,_,_=>by cases h
 |d+1,k,[],rs,h,r,af=>by
  simp only[oS,Option.some.injEq]at h;subst h;cases af
 |d+1,k,f::fs,rs,h,r,af=>by
  simp only[oS]at h
  split at h
  ·cases h
  ·cases ag:mX P f.type with
   |some gs=>
    rw[ag]at h;simp only at h
    cases hi:P.info? f.type with
    |none=>rw[hi]at h;cases h
    |some inf=>
     rw[hi]at h;simp only at h
     split at h
     ·rename_i u v aa ad
      split at h
      ·simp only[Option.some.injEq]at h
       subst h
       rcases List.mem_append.1 af with q|q
       ·exact CD d 0 gs u aa r q
       ·exact CD d _ fs v ad r q
      ·cases h
     ·cases h
   |none=>
    rw[ag]at h;simp only at h
    split at h
    ·rename_i ew dW
     split at h
     ·rename_i l ao
      simp only[Option.some.injEq]at h;subst h
      rcases List.mem_cons.1 af with rfl|q
      ·unfold CB at dW
       split at dW<;>first|(cases dW;rfl)|cases dW
      ·exact CD d _ fs l ao r q
     ·cases h
    ·cases h
theorem ZU{r:aZ}(h:r.cmp=true)(x:r.den):fQ r x= .v (sw r x):=by
 cases r<;>first|rfl|cases h
theorem zi{G:a7}{e:Env}: ∀{rs:List aZ} {l:List ab},hJ rs l=true→(∀r∈rs,r.cmp=true)→ha (ab.bR G e l)=some ((hW e rs l).map zh)
 |[],[],_,_=>rfl
 |[],_::_,h,_=>by cases h
 |_::_,[],h,_=>by cases h
 |r::rs,x::xs,h,hc=>by
  simp only[hJ,Bool.and_eq_true]at h
  have aa:x.den G e= .au (fQ r (x.aH e r)):=ZG h.1 (by have:=hc r (by simp);cases r<;>first|rfl|cases this)
  simp only[ab.bR,hW,aa,ZU (hc r (by simp)),ha,zi h.2 fun r af=>hc r (by simp[af]),List.map_cons,zh]
theorem P5{e:Env}: ∀{rs:List aZ} {l m:List ab},hJ rs l=true→hJ rs m=true→kH e rs l m=np (hW e rs l) (hW e rs m)
 |[],[],[],_,_=>rfl
 |[],_::_,_,h,_=>by cases h
 |[],[],_::_,_,h=>by cases h
 |_::_,[],_,h,_=>by cases h
 |_::_,_::_,[],_,h=>by cases h
 |[r],[x],[y],_,_=>by simp[kH,hW,np,cT]
 |[r],x::lb::xs,_::_,h,_=>by simp[hJ]at h
 |[r],[x],y::sh::ys,_,h=>by simp[hJ]at h
 |r::s::rs,x::xs,y::ys,h,h'=>by
  simp only[hJ,Bool.and_eq_true]at h h'
  have:=P5 (e:=e) (rs:=s::rs) (l:=xs) (m:=ys) h.2 h'.2
  cases xs with
  |nil=>simp[hJ]at h
  |cons lb xs=>
   cases ys with
   |nil=>simp[hJ]at h'
   |cons sh ys=>
    have aq:np (hW e (r::s::rs) (x::lb::xs)) (hW e (r::s::rs) (y::sh::ys))=(q5 r (x.aH e r) (y.aH e r)&&np (hW e (s::rs) (lb::xs)) (hW e (s::rs) (sh::ys))):=by
     simp only[hW,np,cT]
    rw[aq,←this];simp only[kH]
    cases q5 r (x.aH e r) (y.aH e r)<;>rfl
section
variable {P:Program} {G:a7} {o:Oper} {N B:Nat} {e:Env} {S:ar}
theorem P6(hf: ∀c∈S.g,c.ok e){n:Bool}{op:BinOp}(wD:op=bif n then .neq else .eql){cl ty:TypeId}{x y:Operand}(an:o.op= .binOp op cl x y ty){fs:List Field}{rs:List aZ}(h:mX P cl=some fs)(af:oS P 64 0 fs=some rs){l m:List ab}(hx:S.a6 N x= .cF l)(az:S.a6 N y= .cF m)
 (ao:hJ rs l=true)(hm:hJ rs m=true):cV P G o (S.den G N B e) (.au (.v (.bool (bif n then !kH e rs l m else kH e rs l m)))):=by
 have hc:=CD 64 0 fs rs af
 have fZ:aJ G (S.den G N B e) x= .agg (ab.bR G e l):=by rw[bJ hf,hx];rfl
 have mn:aJ G (S.den G N B e) y= .agg (ab.bR G e m):=by rw[bJ hf,az];rfl
 have ae:=CC 64 0 fs rs af _ _ (Cv G e ao).1 (Cv G e hm).1
 rw[←P5 ao hm]at ae
 cases n with
 |true=>
  subst wD;exact OE cl ty x y an h fZ mn (zi ao hc) (zi hm hc) ae
 |false=>
  subst wD;exact OD cl ty x y an h fZ mn (zi ao hc) (zi hm hc) ae
end
end Go.aM
namespace Go.aM
open Go
structure dQ where
 xs:List bS
 ns:List fK
 v:ab
def ab.rt:ab→Option aZ
 | .bl r _=>match r.one with
  |true=>some r
  |false=>none
 | .fd _ _ _ r=>match r.one with
  |true=>some r
  |false=>none
 | .cs (.int k _)=>some (.int k)
 | .cs (.bool _)=>some .bool
 | .cs (.string _)=>some .str
 |_=>none
theorem zj(r:aZ):jx r r=true:=decide_eq_true rfl
theorem IB{x:ab}{r:aZ}(h:x.rt=some r):x.fF r=true∧x.isNil=false:=by
 unfold ab.rt at h
 split at h
 ·split at h
  ·rename_i aa;cases h;exact⟨by simp[ab.fF,zj,aa],rfl⟩
  ·cases h
 ·split at h
  ·rename_i aa;cases h;exact⟨by simp[ab.fF,zj,aa],rfl⟩
  ·cases h
 ·cases h;exact⟨by simp[ab.fF,zj],rfl⟩
 ·cases h;exact⟨by simp[ab.fF,zj],rfl⟩
 ·cases h;exact⟨by simp[ab.fF,zj],rfl⟩
 ·cases h
theorem gJ{G:a7}{e:Env}{x:ab}{r:aZ}(h:x.rt=some r):x.den G e= .au (fQ r (x.aH e r)):=Io (IB h).1 (IB h).2
theorem jB{G:a7}{e:Env}{x:ab}{k:IntKind}(h:x.rt=some (.int k)):x.den G e= .au (.v (.int k (x.aH e (.int k)))):=gJ h
theorem mo{e:Env}{x:ab}{k:IntKind}(h:x.rt=some (.int k)):cg (x.dyn e)=x.aH e (.int k):=by
 obtain⟨aa,ad⟩:=IB h
 unfold ab.aH
 rw[PN ad]
 cases x with
 |bl q i=>
  simp only[ab.fF,Bool.and_eq_true]at aa
  cases iB aa.1
  simp only[ab.dyn,cT,cg]
 |fd c i j q=>
  simp only[ab.fF,Bool.and_eq_true]at aa
  cases iB aa.1
  simp only[ab.dyn,cT,cg]
 |cs v=>
  cases v with
  |int br n=>
   cases iB aa
   simp only[ab.dyn,cT,cg]
  |bool b=>cases iB aa
  |string s=>cases iB aa
  |slice a n c=>unfold ab.fF at aa;split at aa<;>first|cases aa|simp_all
  |_=>cases aa
 |_=>cases aa
def isLen(f:db)(x:ab)(n:Nat):List bX→Bool
 |[]=>false
 | .d1 i g y::r=>match Nat.beq i n&&(decide (g=f)&&zd y x)with
  |true=>true
  |false=>isLen f x n r
 |_::r=>isLen f x n r
theorem wE{f:db}{x:ab}{n:Nat}{e:Env}: ∀{l:List bX},isLen f x n l=true→(∀c∈l,c.ok e)→Env.at e n=⟨f.c,f.den (x.aH e f.a)⟩
 | .d1 i g y::r,h,hc=>by
  simp only[isLen]at h
  split at h
  ·rename_i ae
   simp only[Bool.and_eq_true,decide_eq_true_eq]at ae
   have:=hc (.d1 i g y) (by simp)
   simp only[bX.ok]at this;rw[←Nat.eq_of_beq_eq_true ae.1,this,ae.2.1,Iv ae.2.2]
  ·exact wE h fun c hm=>hc c (by simp[hm])
 | .d2 _ _ _ _::r,h,hc=>wE (l:=r) h fun c hm=>hc c (by simp[hm])
 | .rg _ _::r,h,hc=>wE (l:=r) h fun c hm=>hc c (by simp[hm])
 | .dP _ _::r,h,hc=>wE (l:=r) h fun c hm=>hc c (by simp[hm])
def P7(f:db)(x:ab)(i:Nat)(all:List bX):bX→Bool
 | .rg j (.bl (.int .i64) n)=>Nat.beq i j&&isLen f x n all
 |_=>false
def CE(f:db)(x:ab)(i:Nat)(all:List bX):List bX→Bool
 |[]=>false
 |c::r=>match P7 f x i all c with
  |true=>true
  |false=>CE f x i all r
theorem IC{f:db}{x:ab}{i:Nat}{e:Env}{all:List bX}{L:Int}(fG: ∀n,isLen f x n all=true→Env.at e n=⟨.int .i64,L⟩): ∀{l:List bX},CE f x i all l=true→(∀c∈l,c.ok e)→0≤cg (Env.at e i)∧cg (Env.at e i)<L
 |c::r,h,hc=>by
  simp only[CE]at h
  split at h
  ·rename_i ae
   unfold P7 at ae
   split at ae
   ·rename_i j n
    simp only[Bool.and_eq_true]at ae
    have aa:=hc (.rg j (.bl (.int .i64) n)) (by simp)
    simp only[bX.ok,ab.dyn,fG n ae.2,cT,cg]at aa;rw[←Nat.eq_of_beq_eq_true ae.1]at aa;exact aa
   ·cases ae
  ·exact IC fG h fun c hm=>hc c (by simp[hm])
def zk(len j:Nat):List bX→Bool
 | .rg i (.cs (.int _ (.ofNat m)))::r=>(Nat.beq i j&&Nat.ble m len)||zk len j r
 |_::r=>zk len j r
 |[]=>false
theorem ID{len j:Nat}{e:Env}: ∀{l:List bX},zk len j l=true→(∀c∈l,c.ok e)→0≤cg (Env.at e j)∧cg (Env.at e j)<(len:Int)
 |[],h,_=>by cases h
 |c::r,h,hc=>by
  unfold zk at h
  split at h
  ·rename_i i k m _ heq
   cases heq;simp only[Bool.or_eq_true,Bool.and_eq_true]at h
   rcases h with⟨aa,ad⟩|h
   ·have aq:0≤cg (Env.at e i)∧cg (Env.at e i)<(m:Int):=hc (.rg i (.cs (.int k (.ofNat m)))) (by simp)
    rw[←Nat.eq_of_beq_eq_true aa]
    have:=Nat.le_of_ble_eq_true ad
    omega
   ·exact ID h fun c hm=>hc c (by simp[hm])
  ·rename_i ew _ heq
   cases heq;exact ID h fun c hm=>hc c (by simp[hm])
  ·rename_i heq;cases heq
def wF(g:List bX)(len:Nat)(i:ab):List fK:=
 match i with
 | .bl (.int _) j=>match zk len j g with
  |true=>[]
  |false=>[.nth len i]
 |_=>[.nth len i]
theorem CF{M:List a1}{g:List bX}{len:Nat}{i:ab}{e:Env}(ah: ∀c∈g,c.ok e)(h: ∀n∈wF g len i,n.ok M e):0≤cg (i.dyn e)∧cg (i.dyn e)<(len:Int):=by
 unfold wF at h
 split at h
 ·rename_i k j
  split at h
  ·rename_i ae
   have:=ID ae ah
   simp only[ab.dyn]
   by_cases af:(Env.at e j).r= .int k
   ·rw[Cj af];exact this
   ·have aU:cg ⟨.int k,(Env.at e j).as (.int k)⟩=0:=by
     unfold aD.as
     split
     ·rename_i aX _;exact absurd aX af
     ·rfl
    rw[aU];omega
  ·exact h _ (List.mem_singleton.2 rfl)
 ·exact h _ (List.mem_singleton.2 rfl)
def oT(g:List bX)(f:db)(q:b6)(x i:ab):List fK:=
 match i with
 | .bl (.int _) j=>match CE f x j g g with
  |true=>[]
  |false=>[.f2 0 q x i]
 |_=>[.f2 0 q x i]
theorem wG{M:List a1}{g:List bX}{c:bO}{k:IntKind}{x i:ab}{e:Env}(ah: ∀c∈g,c.ok e)(hi:i.rt=some (.int k))(h: ∀n∈oT g (.iC c) (.j3 c k) x i,n.ok M e):
 0≤i.aH e (.int k)∧i.aH e (.int k)<(List.length (x.aH e (.li c)):Int):=by
 unfold oT at h
 split at h
 ·rename_i br j
  split at h
  ·rename_i ae
   have:=IC (f:=.iC c) (fun n hn=>wE hn ah) ae ah
   rw[←mo hi];simp only[ab.dyn]
   have aj:br=k:=by simp only[ab.rt,aZ.one]at hi;cases hi;rfl
   subst aj
   by_cases af:(Env.at e j).r= .int br
   ·rw[Cj af];exact this
   ·have aU:cg ⟨.int br,(Env.at e j).as (.int br)⟩=0:=by
     unfold aD.as
     split
     ·rename_i aX _;exact absurd aX af
     ·rfl
    rw[aU];exact⟨Int.le_refl _,Int.lt_of_le_of_lt this.1 this.2⟩
  ·exact h _ (List.mem_singleton.2 rfl)
 ·exact h _ (List.mem_singleton.2 rfl)
theorem ZV{M:List a1}{g:List bX}{k:IntKind}{x i:ab}{e:Env}(ah: ∀c∈g,c.ok e)(hi:i.rt=some (.int k))(h: ∀n∈oT g .nU (.q3 k) x i,n.ok M e):
 0≤i.aH e (.int k)∧i.aH e (.int k)<(ByteArray.size (x.aH e .str):Int):=by
 unfold oT at h
 split at h
 ·rename_i br j
  split at h
  ·rename_i ae
   have:=IC (f:=.nU) (fun n hn=>wE hn ah) ae ah
   rw[←mo hi];simp only[ab.dyn]
   have aj:br=k:=by simp only[ab.rt,aZ.one]at hi;cases hi;rfl
   subst aj
   by_cases af:(Env.at e j).r= .int br
   ·rw[Cj af];exact this
   ·have aU:cg ⟨.int br,(Env.at e j).as (.int br)⟩=0:=by
     unfold aD.as
     split
     ·rename_i aX _;exact absurd aX af
     ·rfl
    rw[aU];exact⟨Int.le_refl _,Int.lt_of_le_of_lt this.1 this.2⟩
  ·exact h _ (List.mem_singleton.2 rfl)
 ·exact h _ (List.mem_singleton.2 rfl)
end Go.aM
namespace Go.aM
open Go
def kK(h:List (Nat × bE)):ab→Bool
 | .bl _ _=>true
 | .fd _ _ _ _=>true
 | .cs _=>true
 | .ip _ _ _=>true
 | .fn _ _ _=>true
 | .dD id _=>match dq h id with
  |some (.dc _ _)=>true
  |_=>false
 | .gF id _ _ _=>match dq h id with
  |some (.dc _ _)=>true
  |_=>false
 | .e4 _ (some id) _=>match dq h id with
  |some (.dc _ _)=>true
  |_=>false
 | .aP id=>match dq h id with
  |some (.rw _ _ _)=>true
  |_=>false
 | .gy id _ _=>match dq h id with
  |some (.rw _ _ _)=>true
  |_=>false
 |_=>false
def uI(S:ar):ab→Option (List ab)
 | .dD id off=>match dq S.h id with
  |some (.dc _ l)=>some (l.drop off)
  |_=>none
 | .ip c i k=>some ((iY c i 0 (fo c)).drop k)
 |_=>none
def rb(P:Program)(t:TypeId)(l:List ab):Option ab:=
 match l8 P t with
 |some n=>match Nat.ble n l.length&&Nat.ble 1 n with
  |true=>some (.cF (l.take n))
  |false=>none
 |none=>match scalar P t,l with
  |true,y::_=>some y
  |_,_=>none
def sx(S:ar):ab→Bool
 | .dD id _=>match dq S.h id with
  |some (.dc _ _)=>true
  |_=>false
 | .gF id _ _ _=>match dq S.h id with
  |some (.dc _ _)=>true
  |_=>false
 | .ip _ _ _=>true
 | .gy id _ _=>match dq S.h id with
  |some (.rw _ _ _)=>true
  |_=>false
 |_=>false
def wH(k:Nat):ab→Option ab
 | .dD id off=>some (.dD id (off+k))
 | .ip c i j=>some (.ip c i (j+k))
 | .gy id x off=>some (.gy id x (off+k))
 | .gF id off x n=>some (.gF id (off+k) x n)
 |_=>none
def re(place:Nat→Option (Nat × Nat)):List ab→List (Nat × ab)→Option (List ab)
 |l,[]=>some l
 |l,(i,v)::rest=>match place i with
  |some (off,size)=>match Nat.beq v.cells.length size&&Nat.ble (off+size) l.length with
   |true=>re place (ea l off v.cells) rest
   |false=>none
  |none=>none
section
variable {P:Program} {G:a7} {o:Oper} {N B:Nat} {e:Env} {S:ar} {M:List a1}
theorem P8{h:List (Nat × bE)}{x:ab}(hx:kK h x=true):eo (cM G e h) (x.den G e)=true∧cA (x.den G e)=[x.den G e]:=by
 cases x with
 |dD id off=>
  simp only[kK]at hx
  split at hx
  ·rename_i t l ah
   simp[ab.den,eo,eR,ah,bE.den,cA]
  ·cases hx
 |gF id off x n=>
  simp only[kK]at hx
  split at hx
  ·rename_i t l ah
   simp[ab.den,eo,eR,ah,bE.den,cA]
  ·cases hx
 |aP id=>
  simp only[kK]at hx
  split at hx
  ·rename_i t c y ah
   simp[ab.den,eo,eR,ah,bE.den,cA]
  ·cases hx
 |gy id x off=>
  simp only[kK]at hx
  split at hx
  ·rename_i t c y ah
   simp[ab.den,eo,eR,ah,bE.den,cA]
  ·cases hx
 |cF l=>cases hx
 |tp l=>cases hx
 |iX id=>cases hx
 |fr g b x=>cases hx
 |lM g off=>cases hx
 |top=>cases hx
 |cz k n=>cases hx
 |e4 g id off=>
  cases id with
  |none=>cases hx
  |some id=>
   simp only[kK]at hx
   split at hx
   ·rename_i t l ah
    simp only[ab.den]
    cases g.aH e .bool<;>simp[eo,eR,ah,bE.den,cA]
   ·cases hx
 |_=>exact⟨rfl,rfl⟩
theorem wI{h:List (Nat × bE)}: ∀{l:List ab},l.all (kK h)=true→(ab.bR G e l).all (eo (cM G e h))=true
 |[],_=>rfl
 |x::r,hx=>by
  simp only[List.all_cons,Bool.and_eq_true]at hx;simp only[ab.bR,List.all_cons,(P8 hx.1).1,wI hx.2,Bool.and_self]
theorem uJ{h:List (Nat × bE)}{x:ab}(hx:x.cells.all (kK h)=true):cA (x.den G e)=ab.bR G e x.cells:=by
 cases x with
 |cF l=>rfl
 |_=>
  simp only[ab.cells,List.all_cons,List.all_nil,Bool.and_true]at hx;simp only[(P8 hx).2,ab.cells,ab.bR]
theorem IE(k:Nat)(l:List ab):ab.bR G e (l.drop k)=(ab.bR G e l).drop k:=by rw[eG,eG,List.map_drop]
theorem nq(l:List ab):(ab.bR G e l).length=l.length:=by rw[eG,List.length_map]
theorem zl{p:ab}{l:List ab}(h:uI S p=some l):fj (S.den G N B e).heap (p.den G e)=some (ab.bR G e l):=by
 unfold uI at h
 split at h
 ·split at h
  ·rename_i id off t eW ah
   cases h;simp only[ar.den,ab.den,fj,eR,ah,Option.map_some,bE.den];rw[eG,eG,List.map_drop]
  ·cases h
 ·rename_i c i k
  cases h;simp only[ab.den,fj,Option.some.injEq];rw[IE,wk,List.map_drop]
 ·cases h
theorem P9{t:TypeId}{x:Operand}{l:List ab}{v:ab}(an:o.op= .load t x)(hc:fj (S.den G N B e).heap (aJ G (S.den G N B e) x)=some (ab.bR G e l))(av:rb P t l=some v):cV P G o (S.den G N B e) (v.den G e):=by
 unfold rb at av
 split at av
 ·rename_i n hn
  split at av
  ·rename_i ae
   simp only[Bool.and_eq_true]at ae;cases av
   have:=N9 t x an hn hc (by rw[nq];exact Nat.le_of_ble_eq_true ae.1) (Nat.le_of_ble_eq_true ae.2)
   simp only[ab.den];rw[eG]at this;rw[eG,List.map_take];exact this
  ·cases av
 ·split at av
  ·rename_i y r ag
   cases av;exact Hk t x an ag hc
  ·cases av
theorem uK{p:ab}(h:sx S p=true):jT (S.den G N B e).heap (p.den G e)=true:=by
 unfold sx at h
 split at h
 ·split at h
  ·rename_i ah;simp[ar.den,ab.den,jT,eR,ah,bE.den]
  ·cases h
 ·split at h
  ·rename_i ah;simp[ar.den,ab.den,jT,eR,ah,bE.den]
  ·cases h
 ·rfl
 ·split at h
  ·rename_i ah;simp[ar.den,ab.den,jT,eR,ah,bE.den]
  ·cases h
 ·cases h
theorem zm{k:Nat}{p q:ab}(h:wH k p=some q):qI k (p.den G e)=q.den G e:=by
 unfold wH at h
 split at h
 ·cases h;simp[ab.den,qI]
 ·cases h;simp[ab.den,qI,List.drop_drop,Nat.add_comm]
 ·cases h;simp[ab.den,qI]
 ·cases h;simp only[ab.den,qI,aE.ptr.injEq,true_and];omega
 ·cases h
theorem CG{α β:Type}(f:α→β)(l:List α)(off:Nat)(vs:List α):(ea l off vs).map f=ea (l.map f) off (vs.map f):=by
 simp[ea,List.map_take,List.map_drop]
theorem CH{pl:Nat→Option (Nat × Nat)}{h:List (Nat × bE)}: ∀{ps:List (Nat × ab)} {l ds:List ab},(ps.all fun p=>p.2.cells.all (kK h))=true→re pl l ps=some ds→jW pl (ab.bR G e l) (ps.map fun p=>(p.1,p.2.den G e))=some (ab.bR G e ds)
 |[],l,ds,_,hf=>by
  simp only[re,Option.some.injEq]at hf;subst hf;rfl
 |(i,v)::rest,l,ds,aI,hf=>by
  simp only[List.all_cons,Bool.and_eq_true]at aI;simp only[re]at hf;simp only[List.map_cons,jW]
  split at hf
  ·rename_i off size ak
   split at hf
   ·rename_i ae
    simp only[Bool.and_eq_true]at ae
    have aa:=Nat.eq_of_beq_eq_true ae.1
    have ad:=Nat.le_of_ble_eq_true ae.2
    have av:=uJ (G:=G) (e:=e) aI.1
    simp only[ak,av,nq];rw[if_pos ⟨aa,ad⟩]
    have:=CH aI.2 hf
    rw[eG]at this⊢;rw[CG]at this;rw[eG];exact this
   ·cases hf
  ·cases hf
def j7(P:Program)(G:a7)(N B:Nat)(M:List a1)(o:Oper)(S:ar)(r:dQ):Prop:=
 ∀e,(∀c∈S.g,c.ok e)→(∀(j:Nat) (x:bS),r.xs[j]? =some x→Env.at e (S.k+j)=x.den M e)→(∀n∈r.ns,n.ok M e)→cV P G o (S.den G N B e) (r.v.den G e)
end
def IF(op:BinOp)(k br:IntKind)(x y:ab):List fK:=
 match op with
 | .add=>[]
 | .sub=>[]
 | .mul=>[]
 | .and=>[]
 | .or=>[]
 | .xor=>[]
 | .quo=>match y with
  | .cs (.int _ n)=>match decide (n=0)with
   |false=>[]
   |true=>[.f2 0 (.iZ op k br) x y]
  |_=>[.f2 0 (.iZ op k br) x y]
 | .rem=>match y with
  | .cs (.int _ n)=>match decide (n=0)with
   |false=>[]
   |true=>[.f2 0 (.iZ op k br) x y]
  |_=>[.f2 0 (.iZ op k br) x y]
 |op=>match y with
  | .cs (.int _ n)=>match decide (0≤n)with
   |true=>[]
   |false=>[.f2 0 (.iZ op k br) x y]
  |_=>[.f2 0 (.iZ op k br) x y]
def IG(P:Program)(S:ar)(op:BinOp)(cl:TypeId)(x y:ab):Option dQ:=
 match x.rt,y.rt with
 |some (.int k),some (.int br)=>match Iz op k br with
  |true=>some ⟨[.f2 (.iZ op k br) x y],IF op k br x y,.bl (.int k) S.k⟩
  |false=>match wC op&&decide (br=k)with
   |true=>some ⟨[.f2 (.oL op k) x y],[],.bl .bool S.k⟩
   |false=>none
 |some .str,some .str=>match wC op with
  |true=>some ⟨[.f2 (.wm op) x y],[],.bl .bool S.k⟩
  |false=>match op with
   | .add=>some ⟨[.f2 .sr x y],[.f2 0 .sr x y],.bl .str S.k⟩
   |_=>none
 |some .bool,some .bool=>match op,Cd P cl with
  | .eql,true=>some ⟨[.f2 (.sq false) x y],[],.bl .bool S.k⟩
  | .neq,true=>some ⟨[.f2 (.sq true) x y],[],.bl .bool S.k⟩
  |_,_=>none
 |_,_=>match x,y with
  | .cF l,.cF m=>match mX P cl with
   |some fs=>match oS P 64 0 fs with
    |some rs=>match hJ rs l&&hJ rs m,op with
     |true,.eql=>some ⟨[.y9 false rs l m],[],.bl .bool S.k⟩
     |true,.neq=>some ⟨[.y9 true rs l m],[],.bl .bool S.k⟩
     |_,_=>none
    |none=>none
   |none=>none
  |p,.cs (.pointer none)=>match P.underlying cl,sx S p,op with
   |some (.pointer _),true,.eql=>some ⟨[],[],.cs (.bool false)⟩
   |some (.pointer _),true,.neq=>some ⟨[],[],.cs (.bool true)⟩
   |_,_,_=>none
  |_,_=>none
section
variable {P:Program} {G:a7} {o:Oper} {N B:Nat} {e:Env} {S:ar} {M:List a1}
theorem ZW{e:Env}{f:b6}{x y:ab}{k:Nat}(h:Env.at e k=(bS.f2 f x y).den M e):(ab.bl f.c k).den G e= .au (fQ f.c (f.den (x.aH e f.a) (y.aH e f.b))):=by
 simp only[ab.den,h,bS.den,cT]
theorem ZX{e:Env}{f:db}{x:ab}{k:Nat}(h:Env.at e k=(bS.f1 f x).den M e):(ab.bl f.c k).den G e= .au (fQ f.c (f.den (x.aH e f.a))):=by
 simp only[ab.den,h,bS.den,cT]
theorem pO{s:aN}{f:b6}{x y:ab}{k:Nat}(h:Env.at e k=(bS.f2 f x y).den M e)(ag:cV P G o s (.au (fQ f.c (f.den (x.aH e f.a) (y.aH e f.b))))):cV P G o s ((ab.bl f.c k).den G e):=by
 rw[ZW h];exact ag
theorem pP{s:aN}{f:db}{x:ab}{k:Nat}(h:Env.at e k=(bS.f1 f x).den M e)(ag:cV P G o s (.au (fQ f.c (f.den (x.aH e f.a))))):cV P G o s ((ab.bl f.c k).den G e):=by
 rw[ZX h];exact ag
theorem ZY{op:BinOp}{k br:IntKind}{x y:ab}(az:y.rt=some (.int br))(h: ∀n∈IF op k br x y,n.ok M e):Cw op (y.aH e (.int br)):=by
 have hc: ∀n ix,y= .cs (.int ix n)→y.aH e (.int br)=n:=fun n ix aX=>by
  subst aX;simp only[ab.rt,Option.some.injEq,aZ.int.injEq]at az;subst az;simp only[ab.aH,ab.fM,ab.dyn,cT]
 have ag: ∀CI,((∃q,CI=q)→fK.ok M e (.f2 0 (.iZ CI k br) x y)→Cw CI (y.aH e (.int br))):=fun CI _ h=>h
 cases op<;>try exact trivial
 all_goals
  simp only[IF]at h
  split at h
  ·rename_i ix n
   have hn:=hc n ix rfl
   split at h
   ·rename_i hd
    rw[hn];simp only[decide_eq_false_iff_not,decide_eq_true_eq]at hd;exact hd
   ·exact h _ (List.mem_singleton.2 rfl)
  ·exact h _ (List.mem_singleton.2 rfl)
theorem ZZ{op:BinOp}{cl ty:TypeId}{x y:Operand}{r:dQ}(an:o.op= .binOp op cl x y ty)(h:IG P S op cl (S.a6 N x) (S.a6 N y)=some r):j7 P G N B M o S r:=fun e hf hx hn=>by
 unfold IG at h
 split at h
 ·rename_i k br aa ad
  have fZ:aJ G (S.den G N B e) x=_:=(bJ hf x).trans (jB aa)
  have mn:aJ G (S.den G N B e) y=_:=(bJ hf y).trans (jB ad)
  split at h
  ·rename_i aI
   cases h;exact pO (f:=.iZ op k br) (hx 0 _ rfl) (ZN an fZ mn aI (ZY ad hn))
  ·split at h
   ·rename_i hc
    cases h;simp only[Bool.and_eq_true,decide_eq_true_eq]at hc
    have aj:=hc.2
    subst aj;exact pO (f:=.oL op br) (hx 0 _ rfl) (ZO an fZ mn hc.1)
   ·cases h
 ·rename_i aa ad
  have fZ:aJ G (S.den G N B e) x=_:=(bJ hf x).trans (gJ aa)
  have mn:aJ G (S.den G N B e) y=_:=(bJ hf y).trans (gJ ad)
  split at h
  ·rename_i hc
   cases h;exact pO (f:=.wm op) (hx 0 _ rfl) (ZP an fZ mn hc)
  ·split at h
   ·cases h
    exact pO (f:=.sr) (hx 0 _ rfl) (Yq cl ty x y an fZ mn (hn _ (List.mem_singleton.2 rfl)))
   ·cases h
 ·rename_i aa ad
  have fZ:aJ G (S.den G N B e) x=_:=(bJ hf x).trans (gJ aa)
  have mn:aJ G (S.den G N B e) y=_:=(bJ hf y).trans (gJ ad)
  split at h
  ·rename_i aG
   cases h;exact pO (f:=.sq false) (hx 0 _ rfl) (Ow cl ty x y an (Ce aG) fZ mn)
  ·rename_i aG
   cases h;exact pO (f:=.sq true) (hx 0 _ rfl) (Ox cl ty x y an (Ce aG) fZ mn)
  ·cases h
 ·split at h
  ·rename_i l m ao hm
   split at h
   ·rename_i fs wg
    split at h
    ·rename_i rs nH
     split at h
     ·rename_i ae
      cases h;simp only[Bool.and_eq_true]at ae
      have:=P6 (G:=G) (n:=false) (B:=B) (e:=e) hf rfl an wg nH ao hm ae.1 ae.2
      have aU:Env.at e S.k=_:=hx 0 _ rfl
      simp only[ab.den,aU,bS.den,cT,fQ,lK];exact this
     ·rename_i ae
      cases h;simp only[Bool.and_eq_true]at ae
      have:=P6 (G:=G) (n:=true) (B:=B) (e:=e) hf rfl an wg nH ao hm ae.1 ae.2
      have aU:Env.at e S.k=_:=hx 0 _ rfl
      simp only[ab.den,aU,bS.den,cT,fQ,lK];exact this
     ·cases h
    ·cases h
   ·cases h
  ·rename_i ak
   have key: ∀E a w β ro,c9 E G (S.den G N B e) a w β ro→sx S (S.a6 N x)=true→∃cS,a.eval x= .pointer (some cS):=fun E a w β ro af hi=>by
    obtain⟨cS,hc,_⟩:=yp (uK (G:=G) (N:=N) (B:=B) (e:=e) hi) (by have:=af.eval x;rw[bJ hf]at this;exact this)
    exact⟨cS,hc⟩
   have pQ: ∀E a w β ro,c9 E G (S.den G N B e) a w β ro→a.eval y= .pointer none:=fun E a w β ro af=>by
    refine af.ep ?_
    rw[bJ hf,ak];rfl
   split at h
   ·rename_i t hu hi
    cases h
    exact fun E a w β ro af=>by
     obtain⟨cS,hc⟩:=key E a w β ro af hi;exact⟨.bool false,by simp[execOp,an,hc,pQ E a w β ro af,eqGuard_at_pointer,run_eql_pointer_nil w cl (some cS) (PJ hu)],.fO rfl⟩
   ·rename_i t hu hi
    cases h
    exact fun E a w β ro af=>by
     obtain⟨cS,hc⟩:=key E a w β ro af hi;exact⟨.bool true,by simp[execOp,an,hc,pQ E a w β ro af,eqGuard_at_pointer,run_neq_pointer_nil w cl (some cS) (PJ hu)],.fO rfl⟩
   ·cases h
  ·cases h
end
end Go.aM
