/- TD, part C: laws of trees. Conditions: none. -/
import Derived.Test.YtmkpmgfieagphaaGreatDoorQTDb
namespace Go.aL
open Go
def hM{R A X:Type}(f:R→X):Step R A→Step X A
 | .ret r=>.ret (f r)
 | .b7 a=>.b7 a
 | .bx a=>.bx a
theorem s6{R A X:Type}(f:R→X){b:Nat→A→Step R A}{c:Nat→A→Step X A}(h: ∀i a,c i a=hM f (b i a)): ∀(m k:Nat) (a:A),bV c k m a=Sum.map f id (bV b k m a)
 |0,_,_=>rfl
 |m+1,k,a=>by
  simp only[bV,h]
  cases b k a with
  |ret r=>rfl
  |b7 a=>rfl
  |bx a=>exact s6 f h m (k+1) a
theorem wi{R A X:Type}(f:R→X){b:A→Step R A}{c:A→Step X A}(h: ∀a,c a=hM f (b a)): ∀(m:Nat) (a:A),b9 c m a=Sum.map f id (b9 b m a)
 |0,_=>rfl
 |m+1,a=>by
  simp only[b9,h]
  cases b a with
  |ret r=>rfl
  |b7 a=>rfl
  |bx a=>exact wi f h m a
theorem HU{R A X:Type}(f:R→X){b:A→Step R A}{c:A→Step X A}(h: ∀a,c a=hM f (b a)): ∀(m:Nat) (a:A),jU c m a↔jU b m a
 |0,_=>Iff.rfl
 |m+1,a=>by
  simp only[jU,h]
  cases b a with
  |ret r=>exact Iff.rfl
  |b7 a=>exact Iff.rfl
  |bx a=>exact HU f h m a
theorem wj{X Y:Type}(g:X→Y)(m xid:Nat)(ca:List gZ)(K:bR→ar→Env→X)(x:bR)(S:ar)(e:Env):hM g (dU m xid ca K x S e)=dU m xid ca (fun x S e=>g (K x S e)) x S e:=by
 unfold dU
 split
 ·rfl
 ·split<;>rfl
section
variable {X:Type} {m xid:Nat} {ca:List gZ} {K:bR→ar→Env→X} {x:bR} {S:ar} {e:Env}
theorem nO(h:x.bG m=true):dU m xid ca K x S e= .bx (bZ _ (fa S e ca)):=by unfold dU;rw[h]
theorem nP(h:x.bG m=false)(h':x.cF xid=true):dU m xid ca K x S e= .b7 (bZ _ (fa S e ca)):=by unfold dU;rw[h,h']
theorem jZ(h:x.bG m=false)(h':x.cF xid=false):dU m xid ca K x S e= .ret (K x S e):=by unfold dU;rw[h,h']
end
section
variable {M:List aW}
theorem fold_map: ∀(t:az) {X Y:Type} (g:X→Y) (e:Env) (K:bR→ar→Env→X) (d:X),g (t.fold M e K d)=t.fold M e (fun x S aw=>g (K x S aw)) (g d)
  | .cr _ _,_,_,_,_,_,_=>rfl
  | .lt _ _ t,_,_,g,_,K,d=>fold_map t g _ K d
  | .eH _ t,_,_,g,_,K,d=>fold_map t g _ K d
  | .it c a b,_,_,g,e,K,d=>by
    simp only[az.fold]
    cases c.aH e .bool with
    |true=>exact fold_map a g e K d
    |false=>exact fold_map b g e K d
  | .dn n a ps k,_,_,g,e,K,d=>by
    simp only[az.fold]
    cases a.iV n with
    |true=>exact fold_map k g _ K d
    |false=>cases a.fold M e (fun x _ _=>x.bG n) false with
      |true=>exact fold_map k g _ K d
      |false=>exact fold_map a g e K d
  | .dY m xid c7 bS ca a k,X,Y,g,e,K,d=>by
    simp only[az.fold]
    rw[s6 g (c:=fun i (v:bL ca)=>bif a.iV m
        then(.bx (a.fold M (ba (a1.put e bS ⟨.int .i64,(i:Int)⟩) ca v) (fun _ S aw=>bZ _ (fa S aw ca)) v):Step Y (bL ca))
        else a.fold M (ba (a1.put e bS ⟨.int .i64,(i:Int)⟩) ca v) (dU m xid ca fun x S e=>g (K x S e)) (.b7 v))
      (b:=fun i (v:bL ca)=>bif a.iV m
        then(.bx (a.fold M (ba (a1.put e bS ⟨.int .i64,(i:Int)⟩) ca v) (fun _ S aw=>bZ _ (fa S aw ca)) v):Step X (bL ca))
        else a.fold M (ba (a1.put e bS ⟨.int .i64,(i:Int)⟩) ca v) (dU m xid ca K) (.b7 v))
      (fun i v=>by
        cases a.iV m with
        |true=>rfl
        |false=>
          simp only[cond_false];rw[fold_map a (hM g)];simp only[wj]
          rfl)]
    generalize bV _ _ _ _=L
    cases L with
    |inl r=>rfl
    |inr v=>exact fold_map k g _ K d
  | .eE m xid ca a k,X,Y,g,e,K,d=>by
    simp only[az.fold]
    rw[wi g (c:=fun(v:bL ca)=>a.fold M (ba e ca v) (dU m xid ca fun x S e=>g (K x S e)) (.b7 v))
      (b:=fun(v:bL ca)=>a.fold M (ba e ca v) (dU m xid ca K) (.b7 v))
      (fun v=>by
        rw[fold_map a (hM g)];simp only[wj]
        rfl)]
    generalize b9 _ _ _=L
    cases L with
    |inl r=>rfl
    |inr v=>exact fold_map k g _ K d
  | .bad _,_,_,_,_,_,_=>rfl
abbrev na:=bR × ar × Env
def run(M:List aW)(t:az)(e:Env):Option na:=t.fold M e (fun x S aw=>some (x,S,aw)) none
theorem j0{t:az}{e aw:Env}{x:bR}{S:ar}(h:run M t e=some (x,S,aw)){X:Type}(K:bR→ar→Env→X)(d:X):t.fold M e K d=K x S aw:=by
 have:=fold_map (M:=M) t (fun(o:Option na)=>match o with|some (x,S,aw)=>K x S aw|none=>d) e (fun x S aw=>some (x,S,aw)) none
 simp only at this
 rw[←this]
 unfold run at h
 rw[h]
theorem yY{t:az}{e:Env}(h:run M t e=none){X:Type}(K:bR→ar→Env→X)(d:X):t.fold M e K d=d:=by
 have:=fold_map (M:=M) t (fun(o:Option na)=>match o with|some (x,S,aw)=>K x S aw|none=>d) e (fun x S aw=>some (x,S,aw)) none
 simp only at this
 rw[←this]
 unfold run at h
 rw[h]
def cM(M:List aW)(m xid:Nat)(ca:List gZ)(a:az)(e:Env)(v:bL ca):Step (Option na) (bL ca):=
 match run M a e with
 |some (x,S,aw)=>dU m xid ca (fun x S e=>some (x,S,e)) x S aw
 |none=>.b7 v
theorem wk(m xid:Nat)(ca:List gZ)(a:az)(e:Env)(v:bL ca):a.fold M e (dU m xid ca fun x S e=>some (x,S,e)) (.b7 v)=cM M m xid ca a e v:=by
 unfold cM
 split
 ·rename_i x S aw h
  exact j0 h _ _
 ·rename_i h
  exact yY h _ _
theorem Pf{m xid bS:Nat}{c7:bQ}{ca:List gZ}{a k:az}{e:Env}{X:Type}(K:bR→ar→Env→X)(d:X)(h:a.iV m=true→∀e,∃x S aw,run M a e=some (x,S,aw)∧x.bG m=true):
 (az.dY m xid c7 bS ca a k).fold M e K d=Sum.elim (fun r=>r) (fun v=>k.fold M (ba e ca v) K d) (bV (fun i (v:bL ca)=>a.fold M (ba (a1.put e bS ⟨.int .i64,(i:Int)⟩) ca v) (dU m xid ca K) (.b7 v)) 0 (cc (c7.den M e)).toNat (bZ _ (dt e ca))):=by
 simp only[az.fold]
 cases ai:a.iV m with
 |false=>rfl
 |true=>
  have:(fun(i:Nat) (v:bL ca)=>(.bx (a.fold M (ba (a1.put e bS ⟨.int .i64,(i:Int)⟩) ca v) (fun _ S aw=>bZ _ (fa S aw ca)) v):Step X (bL ca)))=fun(i:Nat) (v:bL ca)=>a.fold M (ba (a1.put e bS ⟨.int .i64,(i:Int)⟩) ca v) (dU m xid ca K) (.b7 v):=by
   funext i v
   obtain⟨x,S,aw,aa,ae⟩:=h ai (ba (a1.put e bS ⟨.int .i64,(i:Int)⟩) ca v);simp only[j0 aa,dU,ae]
  simp only[cond_true];rw[this]
theorem js: ∀{t:az} {f:bR→Bool} {e:Env},t.e3 f=true→∃x S aw,run M t e=some (x,S,aw)∧f x=true
 | .cr x S,_,e,h=>⟨x,S,e,rfl,h⟩
 | .lt _ _ t,_,_,h=>js (t:=t) h
 | .eH _ t,_,_,h=>js (t:=t) h
 | .it c a b,f,e,h=>by
  simp only[az.e3,Bool.and_eq_true]at h;simp only[run,az.fold]
  cases c.aH e .bool with
  |true=>exact js (t:=a) h.1
  |false=>exact js (t:=b) h.2
 | .dn n a ps k,f,e,h=>by
  simp only[az.e3,Bool.and_eq_true]at h;obtain⟨x,S,aw,aa,ae⟩:=js (t:=a) (e:=e) h.1;simp only[run,az.fold]
  cases a.iV n with
  |true=>exact js (t:=k) h.2
  |false=>
   rw[j0 aa]
   cases hx:x.bG n with
   |true=>exact js (t:=k) h.2
   |false=>
    rw[hx,Bool.false_or]at ae;exact⟨x,S,aw,aa,ae⟩
 | .dY m xid c7 bS ca a k,f,e,h=>by
  simp only[az.e3,Bool.and_eq_true]at h
  have key: ∀(n i:Nat) (v:bL ca),(∃bu,bV (fun i (v:bL ca)=>a.fold M (ba (a1.put e bS ⟨.int .i64,(i:Int)⟩) ca v) (dU m xid ca fun x S e=>some (x,S,e)) (.b7 v)) i n v= .inr bu)∨
   ∃x S aw,bV (fun i (v:bL ca)=>a.fold M (ba (a1.put e bS ⟨.int .i64,(i:Int)⟩) ca v) (dU m xid ca fun x S e=>some (x,S,e)) (.b7 v)) i n v= .inl (some (x,S,aw))∧f x=true:=by
   intro n
   induction n with
   |zero=>exact fun i v=>.inl ⟨v,rfl⟩
   |succ n aQ=>
    intro i v;obtain⟨x,S,aw,aa,ae⟩:=js (t:=a) (e:=ba (a1.put e bS ⟨.int .i64,(i:Int)⟩) ca v) h.1;simp only[bV,j0 aa]
    cases hx:x.bG m with
    |true=>
     rw[nO hx];exact aQ (i+1) _
    |false=>
     cases ax:x.cF xid with
     |true=>
      rw[nP hx ax];exact .inl ⟨_,rfl⟩
     |false=>
      rw[jZ hx ax];rw[hx,ax,Bool.false_or,Bool.false_or]at ae;exact .inr ⟨x,S,aw,rfl,ae⟩
  unfold run;rw[Pf _ _ fun ai e=>js (t:=a) (e:=e) ai]
  rcases key (cc (c7.den M e)).toNat 0 (bZ _ (dt e ca))with⟨bu,av⟩|⟨x,S,aw,av,hf⟩
  ·rw[av];exact js (t:=k) h.2
  ·rw[av];exact⟨x,S,aw,rfl,hf⟩
 | .eE m xid ca a k,f,e,h=>by
  simp only[az.e3,Bool.and_eq_true]at h
  have key: ∀(n:Nat) (v:bL ca),(∃bu,b9 (fun(v:bL ca)=>(a.fold M (ba e ca v) (dU m xid ca fun x S e=>some (x,S,e)) (.b7 v):Step (Option na) (bL ca))) n v= .inr bu)∨
   ∃x S aw,b9 (fun(v:bL ca)=>(a.fold M (ba e ca v) (dU m xid ca fun x S e=>some (x,S,e)) (.b7 v):Step (Option na) (bL ca))) n v= .inl (some (x,S,aw))∧f x=true:=by
   intro n
   induction n with
   |zero=>exact fun v=>.inl ⟨v,rfl⟩
   |succ n aQ=>
    intro v;simp only[b9];obtain⟨x,S,aw,aa,ae⟩:=js (t:=a) (e:=ba e ca v) h.1;rw[j0 aa]
    cases hx:x.bG m with
    |true=>
     rw[nO hx];exact aQ _
    |false=>
     cases ax:x.cF xid with
     |true=>
      rw[nP hx ax];exact .inl ⟨_,rfl⟩
     |false=>
      rw[jZ hx ax];rw[hx,ax,Bool.false_or,Bool.false_or]at ae;exact .inr ⟨x,S,aw,rfl,ae⟩
  simp only[run,az.fold]
  rcases key cu (bZ _ (dt e ca))with⟨bu,av⟩|⟨x,S,aw,av,hf⟩
  ·rw[av];exact js (t:=k) h.2
  ·rw[av];exact⟨x,S,aw,rfl,hf⟩
 | .bad _,_,_,h=>by cases h
theorem pI{n:Nat}{a k:az}{ps:List (Nat × aU × ec)}{e ay:Env}{x:bR}{aP:ar}(h:run M a e=some (x,aP,ay))(hx:x.bG n=true){X:Type}(K:bR→ar→Env→X)(d:X):
 (az.dn n a ps k).fold M e K d=k.fold M (fv e (fun r p=>⟨r,(p.c0 aP).get ay r⟩) ps) K d:=by
 simp only[az.fold]
 cases a.iV n with
 |true=>simp only[j0 h,cond_true]
 |false=>simp only[j0 h,hx,cond_true,cond_false]
theorem nb{n:Nat}{a k:az}{ps:List (Nat × aU × ec)}{e ay:Env}{x:bR}{aP:ar}(h:run M a e=some (x,aP,ay))(hx:x.bG n=false){X:Type}(K:bR→ar→Env→X)(d:X):
 (az.dn n a ps k).fold M e K d=K x aP ay:=by
 simp only[az.fold]
 cases ai:a.iV n with
 |true=>
  obtain⟨k8,di,aw,aa,ae⟩:=js (M:=M) (t:=a) (e:=e) ai;rw[aa]at h;cases h;rw[hx]at ae;cases ae
 |false=>simp only[j0 h,hx,cond_false]
theorem sk{n:Nat}{a k:az}{ps:List (Nat × aU × ec)}{e:Env}(h:run M a e=none){X:Type}(K:bR→ar→Env→X)(d:X):
 (az.dn n a ps k).fold M e K d=d:=by
 simp only[az.fold]
 cases ai:a.iV n with
 |true=>
  obtain⟨k8,di,aw,aa,ae⟩:=js (M:=M) (t:=a) (e:=e) ai;rw[aa]at h;cases h
 |false=>simp only[yY h,cond_false]
theorem Pg{n:Nat}{a k:az}{ps:List (Nat × aU × ec)}{e ay:Env}{x:bR}{aP:ar}(ah:(az.dn n a ps k).safe M e)(h:run M a e=some (x,aP,ay))(hx:x.bG n=true):
 k.safe M (fv e (fun r p=>⟨r,(p.c0 aP).get ay r⟩) ps):=by
 have aa:=ah.2 (by rw[j0 h];exact hx)
 have ae:(fun(r:aU) (p:ec)=>(⟨r,bif a.iV n
  then a.fold M e (fun _ S aw=>(p.c0 S).get aw r) r.gD
  else a.fold M e (fun x S aw=>bif x.bG n then(p.c0 S).get aw r else r.gD) r.gD⟩:aB))=fun r p=>⟨r,(p.c0 aP).get ay r⟩:=by
  funext r p
  simp only[j0 h,hx]
  cases a.iV n<;>rfl
 rw[ae]at aa
 exact aa
theorem wm{m xid bS:Nat}{c7:bQ}{ca:List gZ}{a k:az}{e:Env}{X:Type}(K:bR→ar→Env→X)(d:X):
 (az.dY m xid c7 bS ca a k).fold M e K d=Sum.elim (fun r=>r) (fun v=>k.fold M (ba e ca v) K d) (bV (fun i (v:bL ca)=>a.fold M (ba (a1.put e bS ⟨.int .i64,(i:Int)⟩) ca v) (dU m xid ca K) (.b7 v)) 0 (cc (c7.den M e)).toNat (bZ _ (dt e ca))):=Pf K d fun ai _=>js ai
end
end Go.aL
namespace Go.aL
open Go
def az.rel:az→(bR→bR)→az
 | .cr x S,f=>.cr (f x) S
 | .lt i x t,f=>.lt i x (t.rel f)
 | .eH n t,f=>.eH n (t.rel f)
 | .it c a b,f=>.it c (a.rel f) (b.rel f)
 | .dn n a ps k,f=>.dn n (a.rel fun x=>bif x.bG n then x else f x) ps (k.rel f)
 | .dY m xid c7 bS ca a k,f=>.dY m xid c7 bS ca (a.rel fun x=>bif x.bG m||x.cF xid then x else f x) (k.rel f)
 | .eE m xid ca a k,f=>.eE m xid ca (a.rel fun x=>bif x.bG m||x.cF xid then x else f x) (k.rel f)
 | .bad n,_=>.bad n
def az.ib:az→(bR→bR)→Prop
 | .cr _ _,_=>True
 | .lt _ _ t,f=>t.ib f
 | .eH _ t,f=>t.ib f
 | .it _ a b,f=>a.ib f∧b.ib f
 | .dn n a _ k,f=>(∀x,x.bG n=false→(f x).bG n=false)∧(a.ib fun x=>bif x.bG n then x else f x)∧k.ib f
 | .dY m xid _ _ _ a k,f=>(∀x,x.bG m=false→x.cF xid=false→(f x).bG m=false∧(f x).cF xid=false)∧(a.ib fun x=>bif x.bG m||x.cF xid then x else f x)∧k.ib f
 | .eE m xid _ a k,f=>(∀x,x.bG m=false→x.cF xid=false→(f x).bG m=false∧(f x).cF xid=false)∧(a.ib fun x=>bif x.bG m||x.cF xid then x else f x)∧k.ib f
 | .bad _,_=>True
section
variable {M:List aW}
theorem Cd{X:Type}{m xid:Nat}{ca:List gZ}{K:bR→ar→Env→X}{f:bR→bR}(h: ∀x,x.bG m=false→x.cF xid=false→(f x).bG m=false∧(f x).cF xid=false)(x:bR)(S:ar)(e:Env):
 dU m xid ca K (bif x.bG m||x.cF xid then x else f x) S e=dU m xid ca (fun x S e=>K (f x) S e) x S e:=by
 cases hx:x.bG m with
 |true=>rw[Bool.true_or,cond_true,nO hx,nO hx]
 |false=>
  cases ax:x.cF xid with
  |true=>rw[Bool.false_or,cond_true,nP hx ax,nP hx ax]
  |false=>
   obtain⟨aa,ae⟩:=h x hx ax;rw[Bool.false_or,cond_false,jZ hx ax,jZ aa ae]
theorem HV: ∀{t:az} {f g:bR→Bool},(∀x,f x=g x)→t.e3 f=t.e3 g:=fun {t f g} h=>by
 have:f=g:=funext h
 rw[this]
theorem oF: ∀{t:az} {f:bR→bR} {g:bR→Bool},t.ib f→(t.rel f).e3 g=t.e3 fun x=>g (f x)
 | .cr _ _,_,_,_=>rfl
 | .lt _ _ t,_,_,h=>oF (t:=t) h
 | .eH _ t,_,_,h=>oF (t:=t) h
 | .it _ a b,f,g,h=>by simp only[az.rel,az.e3,oF (t:=a) h.1,oF (t:=b) h.2]
 | .dn n a ps k,f,g,h=>by
  simp only[az.rel,az.e3,oF (t:=a) h.2.1,oF (t:=k) h.2.2]
  congr 1
  refine HV fun x=>?_
  cases hx:x.bG n with
  |true=>simp[hx]
  |false=>simp[h.1 x hx]
 | .dY m xid c7 bS ca a k,f,g,h=>by
  simp only[az.rel,az.e3,oF (t:=a) h.2.1,oF (t:=k) h.2.2]
  congr 1
  refine HV fun x=>?_
  cases hx:x.bG m with
  |true=>simp[hx]
  |false=>
   cases ax:x.cF xid with
   |true=>simp[ax]
   |false=>simp[(h.1 x hx ax).1,(h.1 x hx ax).2]
 | .eE m xid ca a k,f,g,h=>by
  simp only[az.rel,az.e3,oF (t:=a) h.2.1,oF (t:=k) h.2.2]
  congr 1
  refine HV fun x=>?_
  cases hx:x.bG m with
  |true=>simp[hx]
  |false=>
   cases ax:x.cF xid with
   |true=>simp[ax]
   |false=>simp[(h.1 x hx ax).1,(h.1 x hx ax).2]
 | .bad _,_,_,_=>rfl
theorem mf: ∀{t:az} {f:bR→bR},t.ib f→∀{X:Type} (e:Env) (K:bR→ar→Env→X) (d:X),(t.rel f).fold M e K d=t.fold M e (fun x S aw=>K (f x) S aw) d
 | .cr _ _,_,_,_,_,_,_=>rfl
 | .lt _ _ t,_,h,_,_,K,d=>mf (t:=t) h _ K d
 | .eH _ t,_,h,_,_,K,d=>mf (t:=t) h _ K d
 | .it c a b,f,h,_,e,K,d=>by
  simp only[az.rel,az.fold,mf (t:=a) h.1,mf (t:=b) h.2]
 | .dn n a ps k,f,h,_,e,K,d=>by
  have af:run M (a.rel fun x=>bif x.bG n then x else f x) e=(run M a e).map fun l=>(bif l.1.bG n then l.1 else f l.1,l.2):=by
   unfold run;rw[mf (t:=a) h.2.1];rw[fold_map a (fun o:Option na=>o.map fun l=>(bif l.1.bG n then l.1 else f l.1,l.2))]
   rfl
  show(az.dn n (a.rel fun x=>bif x.bG n then x else f x) ps (k.rel f)).fold M e K d=_
  cases cS:run M a e with
  |none=>rw[sk (by rw[af,cS];rfl),sk cS]
  |some l=>
   obtain⟨x,aP,ay⟩:=l
   have aa:run M (a.rel fun x=>bif x.bG n then x else f x) e=some (bif x.bG n then x else f x,aP,ay):=by rw[af,cS];rfl
   cases hx:x.bG n with
   |true=>
    rw[hx,cond_true]at aa;rw[pI aa hx,pI cS hx];exact mf (t:=k) h.2.2 _ K d
   |false=>
    rw[hx,cond_false]at aa;rw[nb aa (h.1 x hx),nb cS hx]
 | .dY m xid c7 bS ca a k,f,h,X,e,K,d=>by
  show(az.dY m xid c7 bS ca (a.rel fun x=>bif x.bG m||x.cF xid then x else f x) (k.rel f)).fold M e K d=_
  rw[wm,wm]
  have:(fun(i:Nat) (v:bL ca)=>(a.rel fun x=>bif x.bG m||x.cF xid then x else f x).fold M (ba (a1.put e bS ⟨.int .i64,(i:Int)⟩) ca v) (dU m xid ca K) (.b7 v))=fun(i:Nat) (v:bL ca)=>a.fold M (ba (a1.put e bS ⟨.int .i64,(i:Int)⟩) ca v) (dU m xid ca fun x S aw=>K (f x) S aw) (.b7 v):=by
   funext i v
   rw[mf (t:=a) h.2.1];simp only[Cd h.1]
  rw[this];generalize bV _ _ _ _=L
  cases L with
  |inl r=>rfl
  |inr v=>exact mf (t:=k) h.2.2 _ K d
 | .eE m xid ca a k,f,h,X,e,K,d=>by
  simp only[az.rel,az.fold]
  have:(fun(v:bL ca)=>(a.rel fun x=>bif x.bG m||x.cF xid then x else f x).fold M (ba e ca v) (dU m xid ca K) (.b7 v))=fun(v:bL ca)=>a.fold M (ba e ca v) (dU m xid ca fun x S aw=>K (f x) S aw) (.b7 v):=by
   funext v
   rw[mf (t:=a) h.2.1];simp only[Cd h.1]
  rw[this];generalize b9 _ _ _=L
  cases L with
  |inl r=>rfl
  |inr v=>exact mf (t:=k) h.2.2 _ K d
 | .bad _,_,_,_,_,_,_=>rfl
theorem yZ{t:az}{f:bR→bR}(h:t.ib f)(e:Env):run M (t.rel f) e=(run M t e).map fun l=>(f l.1,l.2):=by
 unfold run
 rw[mf h,fold_map t (fun o:Option na=>o.map fun l=>(f l.1,l.2))]
 rfl
theorem lK: ∀{t:az} {f:bR→bR},t.ib f→∀{e:Env},(t.rel f).safe M e↔t.safe M e
 | .cr _ _,_,_,_=>Iff.rfl
 | .lt _ _ t,_,h,_=>lK (t:=t) h
 | .eH _ t,_,h,_=>by simp only[az.rel,az.safe,lK (t:=t) h]
 | .it c a b,f,h,e=>by simp only[az.rel,az.safe,lK (t:=a) h.1,lK (t:=b) h.2]
 | .dn n a ps k,f,h,e=>by
  have ai: ∀x,(bif bR.bG n x then x else f x).bG n=x.bG n:=fun x=>by
   cases hx:x.bG n with
   |true=>exact hx
   |false=>exact h.1 x hx
  simp only[az.rel,az.safe,lK (t:=a) h.2.1,lK (t:=k) h.2.2,az.iV,oF h.2.1,mf h.2.1,ai]
 | .dY m xid c7 bS ca a k,f,h,e=>by
  simp only[az.rel,az.safe,lK (t:=a) h.2.1,lK (t:=k) h.2.2,mf h.2.1,Cd h.1]
 | .eE m xid ca a k,f,h,e=>by
  simp only[az.rel,az.safe,lK (t:=a) h.2.1,lK (t:=k) h.2.2,mf h.2.1,Cd h.1]
 | .bad _,_,_,_=>Iff.rfl
end
def az.lvl:az→Nat
 | .lt _ _ t=>t.lvl
 | .eH _ t=>t.lvl
 | .it _ a b=>Nat.max a.lvl b.lvl
 | .dn n a _ k=>Nat.max n (Nat.max a.lvl k.lvl)
 | .dY m _ _ _ _ a k=>Nat.max m (Nat.max a.lvl k.lvl)
 | .eE m _ _ a k=>Nat.max m (Nat.max a.lvl k.lvl)
 |_=>0
def fm(n:Nat):bR→bR
 | .b5=>.ld n
 |x=>x
def oG(i:Nat):bR→bR
 | .ext m=>match Nat.beq m i with
  |true=>.b5
  |false=>.ext m
 |x=>x
theorem YO(i n:Nat)(x:bR)(h:x.bG n=false):(oG i x).bG n=false:=by
 unfold oG
 split
 ·split
  ·rfl
  ·exact h
 ·exact h
theorem YP(i n:Nat)(x:bR)(h:x.cF n=false):(oG i x).cF n=false:=by
 unfold oG
 split
 ·split
  ·rfl
  ·exact h
 ·exact h
theorem YQ(i n:Nat)(hn:i≠n)(x:bR)(h:x.bG n=false):(fm i x).bG n=false:=by
 unfold fm
 split
 ·show Nat.beq i n=false
  rw[pH];exact decide_eq_false hn
 ·exact h
theorem YR(i n:Nat)(x:bR)(h:x.cF n=false):(fm i x).cF n=false:=by
 unfold fm
 split
 ·rfl
 ·exact h
theorem nc: ∀{t:az} {f:bR→bR} (N:Nat),t.lvl<N→(∀n,n<N→∀x,x.bG n=false→(f x).bG n=false)→(∀n x,x.cF n=false→(f x).cF n=false)→t.ib f
 | .cr _ _,_,_,_,_,_=>trivial
 | .lt _ _ t,_,N,ao,aa,ae=>nc (t:=t) N ao aa ae
 | .eH _ t,_,N,ao,aa,ae=>nc (t:=t) N ao aa ae
 | .it _ a b,f,N,ao,aa,ae=>by
  have ao:Nat.max a.lvl b.lvl<N:=ao
  have g1:a.lvl≤Nat.max a.lvl b.lvl:=Nat.le_max_left _ _
  have g2:b.lvl≤Nat.max a.lvl b.lvl:=Nat.le_max_right _ _
  exact⟨nc (t:=a) N (by omega) aa ae,nc (t:=b) N (by omega) aa ae⟩
 | .dn n a _ k,f,N,ao,aa,ae=>by
  have ao:Nat.max n (Nat.max a.lvl k.lvl)<N:=ao
  have g0:n≤Nat.max n (Nat.max a.lvl k.lvl):=Nat.le_max_left _ _
  have g3:Nat.max a.lvl k.lvl≤Nat.max n (Nat.max a.lvl k.lvl):=Nat.le_max_right _ _
  have g1:a.lvl≤Nat.max a.lvl k.lvl:=Nat.le_max_left _ _
  have g2:k.lvl≤Nat.max a.lvl k.lvl:=Nat.le_max_right _ _
  refine⟨aa n (by omega),nc (t:=a) N (by omega) (fun p ak x hx=>?_) (fun p x hx=>?_),nc (t:=k) N (by omega) aa ae⟩
  ·cases x.bG n with
   |true=>exact hx
   |false=>exact aa p ak x hx
  ·cases x.bG n with
   |true=>exact hx
   |false=>exact ae p x hx
 | .dY m xid _ _ _ a k,f,N,ao,aa,ae=>by
  have ao:Nat.max m (Nat.max a.lvl k.lvl)<N:=ao
  have g0:m≤Nat.max m (Nat.max a.lvl k.lvl):=Nat.le_max_left _ _
  have g3:Nat.max a.lvl k.lvl≤Nat.max m (Nat.max a.lvl k.lvl):=Nat.le_max_right _ _
  have g1:a.lvl≤Nat.max a.lvl k.lvl:=Nat.le_max_left _ _
  have g2:k.lvl≤Nat.max a.lvl k.lvl:=Nat.le_max_right _ _
  refine⟨fun x hx ax=>⟨aa m (by omega) x hx,ae xid x ax⟩,nc (t:=a) N (by omega) (fun p ak x hx=>?_) (fun p x hx=>?_),nc (t:=k) N (by omega) aa ae⟩
  ·cases x.bG m||x.cF xid with
   |true=>exact hx
   |false=>exact aa p ak x hx
  ·cases x.bG m||x.cF xid with
   |true=>exact hx
   |false=>exact ae p x hx
 | .eE m xid _ a k,f,N,ao,aa,ae=>by
  have ao:Nat.max m (Nat.max a.lvl k.lvl)<N:=ao
  have g0:m≤Nat.max m (Nat.max a.lvl k.lvl):=Nat.le_max_left _ _
  have g3:Nat.max a.lvl k.lvl≤Nat.max m (Nat.max a.lvl k.lvl):=Nat.le_max_right _ _
  have g1:a.lvl≤Nat.max a.lvl k.lvl:=Nat.le_max_left _ _
  have g2:k.lvl≤Nat.max a.lvl k.lvl:=Nat.le_max_right _ _
  refine⟨fun x hx ax=>⟨aa m (by omega) x hx,ae xid x ax⟩,nc (t:=a) N (by omega) (fun p ak x hx=>?_) (fun p x hx=>?_),nc (t:=k) N (by omega) aa ae⟩
  ·cases x.bG m||x.cF xid with
   |true=>exact hx
   |false=>exact aa p ak x hx
  ·cases x.bG m||x.cF xid with
   |true=>exact hx
   |false=>exact ae p x hx
 | .bad _,_,_,_,_,_=>trivial
theorem YS(t:az)(i:Nat):t.ib (oG i):=nc (t.lvl+1) (Nat.lt_succ_self _) (fun n _ x=>YO i n x) (fun n x=>YP i n x)
theorem HW{t:az}{n:Nat}(h:t.lvl<n):t.ib (fm n):=nc n h (fun m hm x=>YQ n m (by omega) x) (fun m x=>YR n m x)
def oH(o:Option (bR→Bool))(x:bR):Bool:=
 match o with
 |none=>true
 |some f=>f x
def az.ez(f:ar→az):az→Option (bR→Bool)→az
 | .cr .b5 S,none=>f S
 | .cr .b5 S,some o=>match(f S).e3 o with
  |true=>f S
  |false=>.bad 9
 | .cr x S,_=>.cr x S
 | .lt i x t,o=>.lt i x (t.ez f o)
 | .eH n t,o=>.eH n (t.ez f o)
 | .it c a b,o=>.it c (a.ez f o) (b.ez f o)
 | .dn n a ps k,o=>.dn n (a.ez f (some fun x=>!(x.bG n)&&oH o x)) ps (k.ez f o)
 | .dY m xid c7 bS ca a k,o=>.dY m xid c7 bS ca (a.ez f (some fun x=>!(x.bG m)&&(!(x.cF xid)&&oH o x))) (k.ez f o)
 | .eE m xid ca a k,o=>.eE m xid ca (a.ez f (some fun x=>!(x.bG m)&&(!(x.cF xid)&&oH o x))) (k.ez f o)
 | .bad n,_=>.bad n
end Go.aL
namespace Go.aL
open Go
theorem xE{R A:Type}{b c:Nat→A→Step R A}(I:Nat→A→Prop)(n:Nat)(h: ∀i v,i<n→I i v→c i v=b i v∧∀bu,b i v= .bx bu→I (i+1) bu): ∀(m k:Nat) (a:A),k+m=n→I k a→bV c k m a=bV b k m a
 |0,_,_,_,_=>rfl
 |m+1,k,a,hn,hi=>by
  obtain⟨aa,ae⟩:=h k a (by omega) hi
  simp only[bV,aa]
  cases ad:b k a with
  |ret r=>rfl
  |b7 a=>rfl
  |bx v=>exact xE I n h m (k+1) v (by omega) (ae v ad)
theorem HX{R A:Type}{b c:A→Step R A}(I:A→Prop)(h: ∀v,I v→c v=b v∧∀bu,b v= .bx bu→I bu): ∀(m:Nat) (a:A),I a→b9 c m a=b9 b m a∧(jU c m a↔jU b m a)
 |0,_,_=>⟨rfl,Iff.rfl⟩
 |m+1,a,hi=>by
  obtain⟨aa,ae⟩:=h a hi;simp only[b9,jU,aa]
  cases ad:b a with
  |ret r=>exact⟨rfl,Iff.rfl⟩
  |b7 a=>exact⟨rfl,Iff.rfl⟩
  |bx v=>exact HX I h m v (ae v ad)
def ic(M:List aW)(f:ar→az)(o:Option na):Option na:=
 match o with
 |some (.b5,S,e)=>run M (f S) e
 |o=>o
section
variable {M:List aW} {f:ar→az}
theorem y0{x:bR}{S:ar}{e:Env}(h:x≠ .b5):ic M f (some (x,S,e))=some (x,S,e):=by
 unfold ic
 split
 ·rename_i hx;cases hx;exact absurd rfl h
 ·rfl
theorem iB(m xid:Nat)(ca:List gZ)(a:az)(e:Env)(v:bL ca):a.fold M e (dU m xid ca fun _ _ _=>()) (.b7 v)=hM (fun _=>()) (cM M m xid ca a e v):=by
 unfold cM
 split
 ·rename_i x S aw h
  rw[j0 h,wj]
 ·rename_i h
  rw[yY h];rfl
theorem sl{R A X:Type}{f:R→X}{s:Step R A}{v:A}(h:hM f s= .bx v):s= .bx v:=by
 cases s<;>simp_all[hM]
theorem Ph{m xid:Nat}{ca:List gZ}{a a6:az}{e:Env}{v:bL ca}(h:run M a6 e=ic M f (run M a e))(ao: ∀S aw,run M a e=some (.b5,S,aw)→∃x aP ay,run M (f S) aw=some (x,aP,ay)∧x.bG m=false∧x.cF xid=false):
 cM M m xid ca a6 e v=hM (ic M f) (cM M m xid ca a e v):=by
 unfold cM
 rw[h]
 cases af:run M a e with
 |none=>rfl
 |some l=>
  obtain⟨x,S,aw⟩:=l
  cases x with
  |b5=>
   obtain⟨x,aP,ay,aa,ae,aq⟩:=ao S aw af;simp only[ic,aa];rw[jZ ae aq,jZ (x:=.b5) rfl rfl];simp only[hM,ic,aa]
  |ext n=>
   simp only[ic];rw[wj]
   cases hx:bR.cF xid (.ext n)with
   |true=>rw[nP rfl hx,nP rfl hx]
   |false=>rw[jZ rfl hx,jZ rfl hx];rfl
  |ret=>
   simp only[ic];rw[wj,jZ rfl rfl,jZ rfl rfl];rfl
  |ld n=>
   simp only[ic];rw[wj]
   cases hx:bR.bG m (.ld n)with
   |true=>rw[nO hx,nO hx]
   |false=>rw[jZ hx rfl,jZ hx rfl];rfl
theorem nd: ∀{t:az} {p q:bR→Bool},t.e3 p=true→(∀x,p x=true→q x=true)→t.e3 q=true
 | .cr x _,_,_,h,aJ=>aJ x h
 | .lt _ _ t,_,_,h,aJ=>nd (t:=t) h aJ
 | .eH _ t,_,_,h,aJ=>nd (t:=t) h aJ
 | .it _ a b,_,_,h,aJ=>by
  simp only[az.e3,Bool.and_eq_true]at h⊢;exact⟨nd h.1 aJ,nd h.2 aJ⟩
 | .dn n a _ k,_,_,h,aJ=>by
  simp only[az.e3,Bool.and_eq_true]at h⊢;refine⟨nd h.1 fun x hx=>?_,nd h.2 aJ⟩
  simp only[Bool.or_eq_true]at hx⊢;exact hx.imp id (aJ x)
 | .dY m xid _ _ _ a k,_,_,h,aJ=>by
  simp only[az.e3,Bool.and_eq_true]at h⊢;refine⟨nd h.1 fun x hx=>?_,nd h.2 aJ⟩
  simp only[Bool.or_eq_true]at hx⊢;exact hx.imp id (Or.imp id (aJ x))
 | .eE m xid _ a k,_,_,h,aJ=>by
  simp only[az.e3,Bool.and_eq_true]at h⊢;refine⟨nd h.1 fun x hx=>?_,nd h.2 aJ⟩
  simp only[Bool.or_eq_true]at hx⊢;exact hx.imp id (Or.imp id (aJ x))
 | .bad _,_,_,h,_=>by cases h
theorem jt: ∀(t:az) (o:Option (bR→Bool)) {e:Env},(t.ez f o).safe M e→
    t.safe M e∧run M (t.ez f o) e=ic M f (run M t e)∧∀S aw,run M t e=some (.b5,S,aw)→(f S).safe M aw∧∀p,o=some p→(f S).e3 p=true
  | .cr x S,o,e,h=>by
    cases x with
    |b5=>
      cases o with
      |none=>exact⟨trivial,rfl,fun di aw af=>by cases af;exact⟨h,fun _ ak=>by cases ak⟩⟩
      |some p=>
        simp only[az.ez]at h
        split at h
        · rename_i ao
          have ag:(az.cr .b5 S).ez f (some p)=f S:=by simp only[az.ez,ao]
          rw[ag];exact⟨trivial,rfl,fun di aw af=>by cases af;exact⟨h,fun _ ak=>by cases ak;exact ao⟩⟩
        · exact h.elim
    |_=>exact⟨trivial,rfl,fun di aw af=>by cases af⟩
  | .lt i x t,o,_,h=>jt t o (e:=a1.put _ i _) h
  | .eH n t,o,e,h=>by
    obtain⟨aa,ae,aq⟩:=jt t o h.2;exact⟨⟨h.1,aa⟩,ae,aq⟩
  | .it c a b,o,e,h=>by
    have aK:=fun hc=>jt a o (h.1 hc)
    have ad:=fun hc=>jt b o (h.2 hc)
    refine⟨⟨fun hc=>(aK hc).1,fun hc=>(ad hc).1⟩,?_⟩
    simp only[run,az.ez,az.fold]
    cases hc:c.aH e .bool with
    |true=>exact(aK hc).2
    |false=>exact(ad hc).2
  | .dn n a ps k,o,e,h=>by
    obtain⟨bB,a2,a3⟩:=jt a _ h.1
    have ah:(az.dn n a ps k).safe M e∧run M ((az.dn n a ps k).ez f o) e=ic M f (run M (az.dn n a ps k) e)∧∀S aw,run M (az.dn n a ps k) e=some (.b5,S,aw)→(f S).safe M aw∧∀p,o=some p→(f S).e3 p=true:=by
      show _∧run M (.dn n (a.ez f (some fun x=>!(x.bG n)&&oH o x)) ps (k.ez f o)) e=_∧_
      cases af:run M a e with
      |none=>
        rw[af]at a2
        have a2:run M _ e=none:=a2
        refine⟨⟨bB,fun ai=>by rw[yY af]at ai;cases ai⟩,?_,fun S aw ai=>by unfold run at ai;rw[sk af]at ai;cases ai⟩
        unfold run;rw[sk a2,sk af];rfl
      |some l=>
        obtain⟨x,aP,ay⟩:=l
        cases hx:x.bG n with
        |true=>
          have cf:x≠ .b5:=fun e=>by rw[e]at hx;cases hx
          rw[af,y0 cf]at a2
          have aj:=Pg h a2 hx
          obtain⟨fD,iv,wo⟩:=jt k o aj;refine⟨⟨bB,fun _=>?_⟩,?_,fun S aw ai=>?_⟩
          · have:(fun(r:aU) (p:ec)=>(⟨r,bif a.iV n
      then a.fold M e (fun _ S aw=>(p.c0 S).get aw r) r.gD
      else a.fold M e (fun x S aw=>bif x.bG n then(p.c0 S).get aw r else r.gD) r.gD⟩:aB))=fun r p=>⟨r,(p.c0 aP).get ay r⟩:=by
              funext r p
              simp only[j0 af,hx]
              cases a.iV n<;>rfl
            rw[this];exact fD
          · unfold run
            rw[pI a2 hx,pI af hx];exact iv
          · unfold run at ai
            rw[pI af hx]at ai;exact wo S aw ai
        |false=>
          have Pj:(az.dn n a ps k).safe M e:=⟨bB,fun ai=>by rw[j0 af,hx]at ai;cases ai⟩
          by_cases cf:x= .b5
          · subst cf
            obtain⟨f1,f2⟩:=a3 aP ay af
            have f2:=f2 _ rfl
            obtain⟨y,dO,aV,g1,g2⟩:=js (M:=M) (e:=ay) f2;simp only[Bool.and_eq_true,Bool.not_eq_true']at g2;rw[af]at a2
            have a2:run M _ e=run M (f aP) ay:=a2
            rw[g1]at a2;refine⟨Pj,?_,fun S aw ai=>?_⟩
            · have aa:run M (az.dn n a ps k) e=some (.b5,aP,ay):=by unfold run;rw[nb af hx]
              rw[aa];show _=run M (f aP) ay;rw[g1];unfold run;rw[nb a2 g2.1]
            · unfold run at ai
              rw[nb af hx]at ai;cases ai;refine⟨f1,fun p ak=>?_⟩
              subst ak;exact nd f2 fun x hx=>by simp only[Bool.and_eq_true]at hx;exact hx.2
          · rw[af,y0 cf]at a2
            refine⟨Pj,?_,fun S aw ai=>?_⟩
            · unfold run
              rw[nb a2 hx,nb af hx,y0 cf]
            · unfold run at ai
              rw[nb af hx]at ai;cases ai;exact absurd rfl cf
    exact ah
  | .dY m xid c7 bS ca a k,o,e,h=>by
    obtain⟨⟨I,i0,ch⟩,aj⟩:=h
    have key: ∀(i:Nat) (v:bL ca),i<(cc (c7.den M e)).toNat→I i v→a.safe M (ba (a1.put e bS ⟨.int .i64,(i:Int)⟩) ca v)∧
        cM M m xid ca (a.ez f (some fun x=>!(x.bG m)&&(!(x.cF xid)&&oH o x))) (ba (a1.put e bS ⟨.int .i64,(i:Int)⟩) ca v) v=hM (ic M f) (cM M m xid ca a (ba (a1.put e bS ⟨.int .i64,(i:Int)⟩) ca v) v)∧
        (∀bu,cM M m xid ca a (ba (a1.put e bS ⟨.int .i64,(i:Int)⟩) ca v) v= .bx bu→I (i+1) bu)∧
        ∀S aw,cM M m xid ca a (ba (a1.put e bS ⟨.int .i64,(i:Int)⟩) ca v) v= .ret (some (.b5,S,aw))→(f S).safe M aw∧∀p,o=some p→(f S).e3 p=true:=by
      intro i v hi av;obtain⟨s1,s2⟩:=ch i v hi av;obtain⟨bB,a2,a3⟩:=jt a _ s1
      have ag:=Ph (m:=m) (xid:=xid) (ca:=ca) (v:=v) a2 fun S aw af=>by
        obtain⟨y,dO,aV,g1,g2⟩:=js (M:=M) (e:=aw) ((a3 S aw af).2 _ rfl);simp only[Bool.and_eq_true,Bool.not_eq_true']at g2;exact⟨y,dO,aV,g1,g2.1,g2.2.1⟩
      refine⟨bB,ag,fun bu ju=>s2 bu ?_,fun S aw af=>?_⟩
      · rw[iB,ag,ju]
        rfl
      · unfold cM at af
        cases oI:run M a (ba (a1.put e bS ⟨.int .i64,(i:Int)⟩) ca v)with
        |none=>rw[oI]at af;cases af
        |some l=>
          obtain⟨x,di,yS⟩:=l;rw[oI]at af;simp only at af
          cases hx:x.bG m with
          |true=>rw[nO hx]at af;cases af
          |false=>
            cases ax:x.cF xid with
            |true=>rw[nP hx ax]at af;cases af
            |false=>
              rw[jZ hx ax]at af;cases af;obtain⟨f1,f2⟩:=a3 S aw oI;refine⟨f1,fun p ak=>?_⟩
              subst ak;exact nd (f2 _ rfl) fun x hx=>by simp only[Bool.and_eq_true]at hx;exact hx.2.2
    have rD:bV (fun i (v:bL ca)=>(a.ez f (some fun x=>!(x.bG m)&&(!(x.cF xid)&&oH o x))).fold M (ba (a1.put e bS ⟨.int .i64,(i:Int)⟩) ca v) (dU m xid ca fun _ _ _=>()) (.b7 v)) 0 (cc (c7.den M e)).toNat (bZ _ (dt e ca))=
        bV (fun i (v:bL ca)=>a.fold M (ba (a1.put e bS ⟨.int .i64,(i:Int)⟩) ca v) (dU m xid ca fun _ _ _=>()) (.b7 v)) 0 (cc (c7.den M e)).toNat (bZ _ (dt e ca)):=
      xE I _ (fun i v hi av=>by
        obtain⟨_,g2,g3,_⟩:=key i v hi av;refine⟨?_,fun bu ju=>g3 bu ?_⟩
        · rw[iB,iB,g2]
          cases cM M m xid ca a (ba (a1.put e bS ⟨.int .i64,(i:Int)⟩) ca v) v<;>rfl
        · rw[iB]at ju
          exact sl ju) _ 0 _ (by omega) i0
    rw[rD]at aj
    have fA:bV (fun i (v:bL ca)=>(a.ez f (some fun x=>!(x.bG m)&&(!(x.cF xid)&&oH o x))).fold M (ba (a1.put e bS ⟨.int .i64,(i:Int)⟩) ca v) (dU m xid ca fun x S e=>some (x,S,e)) (.b7 v)) 0 (cc (c7.den M e)).toNat (bZ _ (dt e ca))=
        bV (fun i (v:bL ca)=>hM (ic M f) (cM M m xid ca a (ba (a1.put e bS ⟨.int .i64,(i:Int)⟩) ca v) v)) 0 (cc (c7.den M e)).toNat (bZ _ (dt e ca)):=
      xE I _ (fun i v hi av=>by
        obtain⟨_,g2,g3,_⟩:=key i v hi av;refine⟨?_,fun bu ju=>g3 bu (sl ju)⟩
        rw[wk,g2]) _ 0 _ (by omega) i0
    have gC: ∀(n i:Nat) (v:bL ca),i+n=(cc (c7.den M e)).toNat→I i v→∀S aw,bV (fun i (v:bL ca)=>cM M m xid ca a (ba (a1.put e bS ⟨.int .i64,(i:Int)⟩) ca v) v) i n v= .inl (some (.b5,S,aw))→(f S).safe M aw∧∀p,o=some p→(f S).e3 p=true:=by
      intro n
      induction n with
      |zero=>intro i v _ _ S aw h;cases h
      |succ n aQ=>
        intro i v GY av S aw h;obtain⟨_,_,g3,g4⟩:=key i v (by omega) av
        simp only[bV]at h
        cases af:cM M m xid ca a (ba (a1.put e bS ⟨.int .i64,(i:Int)⟩) ca v) v with
        |ret r=>rw[af]at h;cases h;exact g4 S aw af
        |b7 bu=>rw[af]at h;cases h
        |bx bu=>rw[af]at h;exact aQ (i+1) bu (by omega) (g3 bu af) S aw h
    have cS:run M (.dY m xid c7 bS ca a k) e=Sum.elim (fun r=>r) (fun v=>run M k (ba e ca v)) (bV (fun i (v:bL ca)=>cM M m xid ca a (ba (a1.put e bS ⟨.int .i64,(i:Int)⟩) ca v) v) 0 (cc (c7.den M e)).toNat (bZ _ (dt e ca))):=by
      unfold run;rw[wm];simp only[wk]
    have HY:run M ((az.dY m xid c7 bS ca a k).ez f o) e=Sum.elim (fun r=>r) (fun v=>run M (k.ez f o) (ba e ca v)) (Sum.map (ic M f) id (bV (fun i (v:bL ca)=>cM M m xid ca a (ba (a1.put e bS ⟨.int .i64,(i:Int)⟩) ca v) v) 0 (cc (c7.den M e)).toNat (bZ _ (dt e ca)))):=by
      show az.fold M (.dY m xid c7 bS ca (a.ez f (some fun x=>!(x.bG m)&&(!(x.cF xid)&&oH o x))) (k.ez f o)) e _ none=_;rw[wm,fA,s6 (ic M f) (fun _ _=>rfl)];rfl
    have ey: ∀v,bV (fun i (v:bL ca)=>cM M m xid ca a (ba (a1.put e bS ⟨.int .i64,(i:Int)⟩) ca v) v) 0 (cc (c7.den M e)).toNat (bZ _ (dt e ca))= .inr v→(k.ez f o).safe M (ba e ca v):=fun v av=>by
      simp only[iB]at aj;rw[s6 (fun _=>()) (fun _ _=>rfl),av]at aj;exact aj
    refine⟨⟨⟨I,i0,fun i v hi av=>?_⟩,?_⟩,?_,fun S aw af=>?_⟩
    · obtain⟨g1,_,g3,_⟩:=key i v hi av
      exact⟨g1,fun bu ju=>g3 bu (sl (by rw[iB]at ju;exact ju))⟩
    · simp only[iB]
      rw[s6 (fun _=>()) (fun _ _=>rfl)]
      cases av:bV (fun i (v:bL ca)=>cM M m xid ca a (ba (a1.put e bS ⟨.int .i64,(i:Int)⟩) ca v) v) 0 (cc (c7.den M e)).toNat (bZ _ (dt e ca))with
      |inl r=>trivial
      |inr v=>exact(jt k o (ey v av)).1
    · rw[cS,HY]
      cases av:bV (fun i (v:bL ca)=>cM M m xid ca a (ba (a1.put e bS ⟨.int .i64,(i:Int)⟩) ca v) v) 0 (cc (c7.den M e)).toNat (bZ _ (dt e ca))with
      |inl r=>rfl
      |inr v=>exact(jt k o (ey v av)).2.1
    · rw[cS]at af
      cases av:bV (fun i (v:bL ca)=>cM M m xid ca a (ba (a1.put e bS ⟨.int .i64,(i:Int)⟩) ca v) v) 0 (cc (c7.den M e)).toNat (bZ _ (dt e ca))with
      |inl r=>
        rw[av]at af
        have af:r=some (.b5,S,aw):=af
        subst af;exact gC _ 0 _ (by omega) i0 S aw av
      |inr v=>
        rw[av]at af;exact(jt k o (ey v av)).2.2 S aw af
  | .eE m xid ca a k,o,e,h=>by
    obtain⟨⟨I,i0,ch⟩,he,aj⟩:=h
    have key: ∀(v:bL ca),I v→a.safe M (ba e ca v)∧
        cM M m xid ca (a.ez f (some fun x=>!(x.bG m)&&(!(x.cF xid)&&oH o x))) (ba e ca v) v=hM (ic M f) (cM M m xid ca a (ba e ca v) v)∧
        (∀bu,cM M m xid ca a (ba e ca v) v= .bx bu→I bu)∧
        ∀S aw,cM M m xid ca a (ba e ca v) v= .ret (some (.b5,S,aw))→(f S).safe M aw∧∀p,o=some p→(f S).e3 p=true:=by
      intro v av;obtain⟨s1,s2⟩:=ch v av;obtain⟨bB,a2,a3⟩:=jt a _ s1
      have ag:=Ph (m:=m) (xid:=xid) (ca:=ca) (v:=v) a2 fun S aw af=>by
        obtain⟨y,dO,aV,g1,g2⟩:=js (M:=M) (e:=aw) ((a3 S aw af).2 _ rfl);simp only[Bool.and_eq_true,Bool.not_eq_true']at g2;exact⟨y,dO,aV,g1,g2.1,g2.2.1⟩
      refine⟨bB,ag,fun bu ju=>s2 bu ?_,fun S aw af=>?_⟩
      · rw[iB,ag,ju]
        rfl
      · unfold cM at af
        cases oI:run M a (ba e ca v)with
        |none=>rw[oI]at af;cases af
        |some l=>
          obtain⟨x,di,yS⟩:=l;rw[oI]at af;simp only at af
          cases hx:x.bG m with
          |true=>rw[nO hx]at af;cases af
          |false=>
            cases ax:x.cF xid with
            |true=>rw[nP hx ax]at af;cases af
            |false=>
              rw[jZ hx ax]at af;cases af;obtain⟨f1,f2⟩:=a3 S aw oI;refine⟨f1,fun p ak=>?_⟩
              subst ak;exact nd (f2 _ rfl) fun x hx=>by simp only[Bool.and_eq_true]at hx;exact hx.2.2
    have rD:=HX (b:=fun(v:bL ca)=>(a.fold M (ba e ca v) (dU m xid ca fun _ _ _=>()) (.b7 v):Step Unit (bL ca))) (c:=fun(v:bL ca)=>((a.ez f (some fun x=>!(x.bG m)&&(!(x.cF xid)&&oH o x))).fold M (ba e ca v) (dU m xid ca fun _ _ _=>()) (.b7 v):Step Unit (bL ca))) I (fun v av=>by
        obtain⟨_,g2,g3,_⟩:=key v av;refine⟨?_,fun bu ju=>g3 bu ?_⟩
        · rw[iB,iB,g2]
          cases cM M m xid ca a (ba e ca v) v<;>rfl
        · rw[iB]at ju
          exact sl ju) cu _ i0
    rw[rD.1]at aj
    have he:=rD.2.1 he
    have fA:=(HX (b:=fun(v:bL ca)=>hM (ic M f) (cM M m xid ca a (ba e ca v) v)) (c:=fun(v:bL ca)=>(a.ez f (some fun x=>!(x.bG m)&&(!(x.cF xid)&&oH o x))).fold M (ba e ca v) (dU m xid ca fun x S e=>some (x,S,e)) (.b7 v)) I (fun v av=>by
        obtain⟨_,g2,g3,_⟩:=key v av;refine⟨?_,fun bu ju=>g3 bu (sl ju)⟩
        rw[wk,g2]) cu _ i0).1
    have gC: ∀(n:Nat) (v:bL ca),I v→∀S aw,b9 (fun(v:bL ca)=>cM M m xid ca a (ba e ca v) v) n v= .inl (some (.b5,S,aw))→(f S).safe M aw∧∀p,o=some p→(f S).e3 p=true:=by
      intro n
      induction n with
      |zero=>intro v _ S aw h;cases h
      |succ n aQ=>
        intro v av S aw h;obtain⟨_,_,g3,g4⟩:=key v av;simp only[b9]at h
        cases af:cM M m xid ca a (ba e ca v) v with
        |ret r=>rw[af]at h;cases h;exact g4 S aw af
        |b7 bu=>rw[af]at h;cases h
        |bx bu=>rw[af]at h;exact aQ bu (g3 bu af) S aw h
    have cS:run M (.eE m xid ca a k) e=Sum.elim (fun r=>r) (fun v=>run M k (ba e ca v)) (b9 (fun(v:bL ca)=>cM M m xid ca a (ba e ca v) v) cu (bZ _ (dt e ca))):=by
      simp only[run,az.fold,wk]
    have HY:run M ((az.eE m xid ca a k).ez f o) e=Sum.elim (fun r=>r) (fun v=>run M (k.ez f o) (ba e ca v)) (Sum.map (ic M f) id (b9 (fun(v:bL ca)=>cM M m xid ca a (ba e ca v) v) cu (bZ _ (dt e ca)))):=by
      rw[←wi (ic M f) (c:=fun(v:bL ca)=>hM (ic M f) (cM M m xid ca a (ba e ca v) v)) (fun _=>rfl),←fA];rfl
    have ey: ∀v,b9 (fun(v:bL ca)=>cM M m xid ca a (ba e ca v) v) cu (bZ _ (dt e ca))= .inr v→(k.ez f o).safe M (ba e ca v):=fun v av=>by
      simp only[iB]at aj;rw[wi (fun _=>()) (fun _=>rfl),av]at aj;exact aj
    refine⟨⟨⟨I,i0,fun v av=>?_⟩,he,?_⟩,?_,fun S aw af=>?_⟩
    · obtain⟨g1,_,g3,_⟩:=key v av
      exact⟨g1,fun bu ju=>g3 bu (sl (by rw[iB]at ju;exact ju))⟩
    · simp only[iB]
      rw[wi (fun _=>()) (fun _=>rfl)]
      cases av:b9 (fun(v:bL ca)=>cM M m xid ca a (ba e ca v) v) cu (bZ _ (dt e ca))with
      |inl r=>trivial
      |inr v=>exact(jt k o (ey v av)).1
    · rw[cS,HY]
      cases av:b9 (fun(v:bL ca)=>cM M m xid ca a (ba e ca v) v) cu (bZ _ (dt e ca))with
      |inl r=>rfl
      |inr v=>exact(jt k o (ey v av)).2.1
    · rw[cS]at af
      cases av:b9 (fun(v:bL ca)=>cM M m xid ca a (ba e ca v) v) cu (bZ _ (dt e ca))with
      |inl r=>
        rw[av]at af
        have af:r=some (.b5,S,aw):=af
        subst af;exact gC _ _ i0 S aw av
      |inr v=>
        rw[av]at af;exact(jt k o (ey v av)).2.2 S aw af
  | .bad _,_,_,h=>h.elim
end
end Go.aL
namespace Go.aL
open Go
theorem q3(G:aY)(e:Env)(l:a1 ab): ∀(n i j:Nat),(jY G e l i n)[j]? =if j<n then some (match l.get (i+j)with|some x=>x.den G e|none=>.top)else none
 |0,_,_=>by simp[jY]
 |n+1,i,0=>by simp only[jY,List.getElem?_cons_zero,Nat.add_zero,Nat.zero_lt_succ,if_true];rfl
 |n+1,i,j+1=>by
  simp only[jY,List.getElem?_cons_succ,q3 G e l n (i+1) j]
  rw[show i+1+j=i+(j+1)by omega]
  simp
theorem HZ(G:aY)(e:Env)(l:a1 ab): ∀(n i:Nat),(jY G e l i n).length=n
 |0,_=>rfl
 |n+1,i=>by simp[jY,HZ G e l n (i+1)]
theorem uw(G:aY)(N B:Nat)(e:Env)(S:ar)(j:Nat):(S.den G N B e).cC[j]? =if j<N then some ((S.at j).den G e)else none:=by
 simp only[ar.den,q3,Nat.zero_add]
 by_cases h:j<N
 ·simp only[h,if_true,Option.some.injEq]
  unfold ar.at
  cases S.l.get j<;>rfl
 ·simp[h]
def y2:ab→ab→Bool
 | .bg r i,.bg q j=>Nat.beq i j&&jr r q
 | .fd c i k r,.fd d j m q=>(Nat.beq i j&&Nat.beq k m)&&(decide (c=d)&&jr r q)
 |_,_=>false
theorem H0{x y:ab}(h:y2 x y=true):x=y:=by
 unfold y2 at h
 split at h
 ·simp only[Bool.and_eq_true]at h
  rw[Nat.eq_of_beq_eq_true h.1,iz h.2]
 ·simp only[Bool.and_eq_true,decide_eq_true_eq]at h
  rw[Nat.eq_of_beq_eq_true h.1.1,Nat.eq_of_beq_eq_true h.1.2,h.2.1,iz h.2.2]
 ·cases h
def lf(g:ab):List bU→Option Bool
 |[]=>none
 | .dJ h b::r=>match y2 h g with
  |true=>some b
  |false=>lf g r
 |_::r=>lf g r
theorem pJ{e:Env}{g:ab}{b:Bool}: ∀{l:List bU},lf g l=some b→(∀c∈l,c.ok e)→g.aH e .bool=b
 | .dJ h gm::r,aj,hc=>by
  simp only[lf]at aj
  split at aj
  ·rename_i ah
   cases aj;rw[←H0 ah];exact hc (.dJ h b) (by simp)
  ·exact pJ aj fun c hm=>hc c (by simp[hm])
 | .d1 _ _ _::r,aj,hc=>pJ (l:=r) aj fun c hm=>hc c (by simp[hm])
 | .d2 _ _ _ _::r,aj,hc=>pJ (l:=r) aj fun c hm=>hc c (by simp[hm])
 | .rg _ _::r,aj,hc=>pJ (l:=r) aj fun c hm=>hc c (by simp[hm])
def ab.res(l:List bU):ab→ab
 | .fk g b v=>match lf g l with
  |some c=>match decide (c=b)with
   |true=>v.res l
   |false=>.tp []
  |none=>.fk g b (v.res l)
 | .eV g id off=>match lf g l,id with
  |some true,some id=>.dz id off
  |some false,_=>.cs (.pointer none)
  |_,_=>.eV g id off
 |x=>x
theorem Pk{l:List bU}{g v:ab}{b:Bool}:(ab.fk g b v).res l=match lf g l with
 |some c=>match decide (c=b)with
  |true=>v.res l
  |false=>.tp []
 |none=>.fk g b (v.res l):=by rw[ab.res]
theorem Pl{l:List bU}{g:ab}{id:Option Nat}{off:Nat}:(ab.eV g id off).res l=match lf g l,id with
 |some true,some id=>.dz id off
 |some false,_=>.cs (.pointer none)
 |_,_=>.eV g id off:=by
 cases aj:lf g l with
 |none=>simp only[ab.res,aj]
 |some b=>cases b<;>cases id<;>simp only[ab.res,aj]
theorem H2{G:aY}{e:Env}{l:List bU}(hc: ∀c∈l,c.ok e): ∀{x:ab},(x.res l).den G e=x.den G e
 | .fk g b v=>by
  have aQ:=H2 (G:=G) hc (x:=v)
  rw[Pk]
  split
  ·rename_i c aj
   have:=pJ aj hc
   split
   ·rename_i hd
    have hd:=of_decide_eq_true hd
    subst hd;rw[aQ];simp only[ab.den,this]
    cases c<;>rfl
   ·rename_i hd
    have hd:=of_decide_eq_false hd
    simp only[ab.den,this]
    cases c<;>cases b<;>first|rfl|exact absurd rfl hd
  ·simp only[ab.den,aQ]
 | .bg _ _=>rfl
 | .fd _ _ _ _=>rfl
 | .cs _=>rfl
 | .ip _ _ _=>rfl
 | .cD _=>rfl
 | .tp _=>rfl
 | .dz _ _=>rfl
 | .gu _ _ _=>rfl
 | .aN _=>rfl
 | .fn _ _ _=>rfl
 | .iS _=>rfl
 | .lJ _ _=>rfl
 | .gB _ _ _ _=>rfl
 | .cx _ _=>rfl
 | .eV g id off=>by
  rw[Pl]
  cases aj:lf g l with
  |none=>rfl
  |some c=>
   have:=pJ aj hc
   cases c with
   |true=>cases id with
    |none=>rfl
    |some id=>simp only[ab.den,this]
   |false=>simp only[ab.den,this]
 | .top=>rfl
theorem H3{l:List bU}{k:Nat}: ∀{x:ab},x.lt k=true→(x.res l).lt k=true
 | .fk g b v,h=>by
  simp only[ab.lt,Bool.and_eq_true]at h;rw[Pk]
  split
  ·split
   ·exact H3 h.2
   ·rfl
  ·simp only[ab.lt,h.1,H3 h.2,Bool.and_self]
 | .bg _ _,h=>h
 | .fd _ _ _ _,h=>h
 | .cs _,h=>h
 | .ip _ _ _,h=>h
 | .cD _,h=>h
 | .tp _,h=>h
 | .dz _ _,h=>h
 | .gu _ _ _,h=>h
 | .aN _,h=>h
 | .fn _ _ _,h=>h
 | .iS _,h=>h
 | .lJ _ _,h=>h
 | .gB _ _ _ _,h=>h
 | .cx _ _,h=>h
 | .eV g id off,h=>by
  rw[Pl]
  cases lf g l with
  |none=>exact h
  |some c=>cases c with
   |true=>cases id with
    |none=>exact h
    |some id=>rfl
   |false=>rfl
 | .top,h=>h
def ar.aX(N:Nat)(S:ar):Operand→ab
 | .tmp t=>match Nat.blt t N with
  |true=>(S.at t).res S.g
  |false=>.top
 | .const v=>match v.oneCell' with
  |true=>.cs v
  |false=>.top
 | .global g=>.lJ g 0
 | .func f=>.fn (.func f) [] []
section
variable {G:aY} {N B:Nat} {e:Env} {S:ar}
theorem bI(hf: ∀c∈S.g,c.ok e)(x:Operand):aI G (S.den G N B e) x=(S.aX N x).den G e:=by
 cases x with
 |tmp t=>
  simp only[aI,ar.aX,List.getD_eq_getElem?_getD,uw]
  cases h:Nat.blt t N with
  |true=>
   have:t<N:=eT h
   simp[this,H2 hf]
  |false=>
   have: ¬t<N:=fun h'=>by rw[jG h']at h;cases h
   simp[this,ab.den]
 |const v=>
  simp only[aI,ar.aX]
  cases v.oneCell'<;>simp[ab.den]
 |global g=>
  simp only[aI,ar.aX,ab.den]
  cases G g with
  |none=>rfl
  |some l=>simp
 |func f=>simp[aI,ar.aX,ab.den,ab.bP]
def ar.put(S:ar)(dst:Option Nat)(v:ab):ar:=
 match dst with
 |some d=>{S with l:=S.l.put d v}
 |none=>S
theorem H4(d:Nat)(v:ab)(l:a1 ab):jY G e (l.put d v) 0 N=(jY G e l 0 N).set d (v.den G e):=by
 apply List.ext_getElem?
 intro j
 rw[q3,List.getElem?_set,q3,HZ,Nat.zero_add,a1.jV]
 by_cases hd:d=j
 ·subst hd
  by_cases ai:d<N<;>simp[ai]
 ·simp[hd]
theorem fw(dst:Option Nat)(v:ab):(S.put dst v).den G N B e=(S.den G N B e).put dst (v.den G e):=by
 cases dst with
 |none=>rfl
 |some d=>simp only[ar.put,ar.den,aM.put,H4]
theorem eN: ∀(h:List (Nat × bC)) (id:Nat),aE (cK G e h) id=(dm h id).map (bC.den G e)
 |[],_=>rfl
 |(i,o)::r,id=>by
  simp only[cK,aE,dm,pH]
  by_cases h:i=id
  ·simp[h]
  ·simp only[h,if_false,decide_false]
   exact eN r id
theorem ux: ∀(h:List (Nat × bC)) (id:Nat) (o:bC),cK G e (kD h id o)=eU (cK G e h) id (o.den G e)
 |[],_,_=>rfl
 |(i,p)::r,id,o=>by
  simp only[kD,cK,eU,pH]
  by_cases h:i=id
  ·simp[h,cK]
  ·simp only[h,decide_false,if_false,cK,ux r id o]
end
def bC.lt(k:Nat):bC→Bool
 | .c8 _ l=>ab.cB k l
 | .rw _ _ x=>x.lt k
 | .it x p=>x.lt k&&p.lt k
def eF(k:Nat):List (Nat × bC)→Bool
 |[]=>true
 |(_,o)::r=>o.lt k&&eF k r
def bU.lt(k:Nat):bU→Bool
 | .d1 i _ x=>Nat.blt i k&&x.lt k
 | .d2 i _ x y=>Nat.blt i k&&(x.lt k&&y.lt k)
 | .rg i b=>Nat.blt i k&&b.lt k
 | .dJ g _=>g.lt k
def eW(k:Nat):List bU→Bool
 |[]=>true
 |c::r=>c.lt k&&eW k r
structure ar.cv (S:ar):Prop where
 l: ∀i x,S.l.get i=some x→x.lt S.k=true
 h:eF S.k S.h=true
 g:eW S.k S.g=true
mutual
theorem gh{k m:Nat}(h:k≤m): ∀{x:ab},x.lt k=true→x.lt m=true:=fun {x} hx=>by
 cases x with
 |bg r i=>exact jG (Nat.lt_of_lt_of_le (eT hx) h)
 |fd c i j r=>exact jG (Nat.lt_of_lt_of_le (eT (i:=i) hx) h)
 |ip c i j=>exact jG (Nat.lt_of_lt_of_le (eT (i:=i) hx) h)
 |cD l=>exact wq (l:=l) h hx
 |tp l=>exact wq (l:=l) h hx
 |gu id x off=>exact gh (x:=x) h hx
 |gB id off x n=>exact gh (x:=x) h hx
 |eV g id off=>exact gh (x:=g) h hx
 |fn f a b=>
  simp only[ab.lt,Bool.and_eq_true]at hx⊢;exact⟨wq h hx.1,wq h hx.2⟩
 |fk g b x=>
  simp only[ab.lt,Bool.and_eq_true]at hx⊢;exact⟨gh h hx.1,gh h hx.2⟩
 |_=>rfl
theorem wq{k m:Nat}(h:k≤m): ∀{l:List ab},ab.cB k l=true→ab.cB m l=true:=fun {l} ao=>by
 match l with
 |[]=>rfl
 |x::r=>
  simp only[ab.cB,Bool.and_eq_true]at ao⊢;exact⟨gh h ao.1,wq h ao.2⟩
end
theorem uy{k m:Nat}(h:k≤m): ∀{l:List (Nat × bC)},eF k l=true→eF m l=true
 |[],_=>rfl
 |(_,o)::r,ao=>by
  simp only[eF,Bool.and_eq_true]at ao⊢;refine⟨?_,uy h ao.2⟩
  cases o with
  |c8 t l=>exact wq h (l:=l) ao.1
  |rw t c x=>exact gh h (x:=x) ao.1
  |it x p=>
   have aa:=ao.1
   simp only[bC.lt,Bool.and_eq_true]at aa⊢;exact⟨gh h aa.1,gh h aa.2⟩
theorem oJ{k m:Nat}(h:k≤m): ∀{l:List bU},eW k l=true→eW m l=true
 |[],_=>rfl
 |c::r,ao=>by
  simp only[eW,Bool.and_eq_true]at ao⊢;refine⟨?_,oJ h ao.2⟩
  cases c with
  |d1 i f x=>
   have:=ao.1
   simp only[bU.lt,Bool.and_eq_true]at this⊢;exact⟨jG (Nat.lt_of_lt_of_le (eT this.1) h),gh h this.2⟩
  |d2 i f x y=>
   have:=ao.1
   simp only[bU.lt,Bool.and_eq_true]at this⊢;exact⟨jG (Nat.lt_of_lt_of_le (eT this.1) h),gh h this.2.1,gh h this.2.2⟩
  |rg i b=>
   have:=ao.1
   simp only[bU.lt,Bool.and_eq_true]at this⊢;exact⟨jG (Nat.lt_of_lt_of_le (eT this.1) h),gh h this.2⟩
  |dJ g b=>exact gh h (x:=g) ao.1
section
variable {G:aY} {N B:Nat} {e aw:Env} {S:ar} {k:Nat}
theorem y3(h:bX k e aw): ∀{l:List (Nat × bC)},eF k l=true→cK G aw l=cK G e l
 |[],_=>rfl
 |(_,o)::r,ao=>by
  simp only[eF,Bool.and_eq_true]at ao;simp only[cK,y3 h ao.2]
  congr 2
  cases o with
  |c8 t l=>simp only[bC.den,wb h (l:=l) ao.1]
  |rw t c x=>simp only[bC.den,fl h (x:=x) ao.1]
  |it x p=>
   have aa:=ao.1
   simp only[bC.lt,Bool.and_eq_true]at aa;simp only[bC.den,fl h (x:=x) aa.1,fl h (x:=p) aa.2]
theorem lg(h:bX S.k e aw)(ad:S.cv):S.den G N B aw=S.den G N B e:=by
 simp only[ar.den,aM.mk.injEq,and_true,true_and]
 refine⟨?_,y3 h ad.h⟩
 apply List.ext_getElem?
 intro j
 rw[q3,q3]
 by_cases ai:j<N
 ·simp only[ai,if_true,Option.some.injEq]
  cases ag:S.l.get (0+j)with
  |none=>rfl
  |some x=>exact sg h (ad.l _ x ag)
 ·simp[ai]
theorem ie(h:bX k e aw): ∀{l:List bU},eW k l=true→(∀c∈l,c.ok e)→∀c∈l,c.ok aw
 |[],_,_,_,hc=>by cases hc
 |d::r,ao,hf,c,hc=>by
  simp only[eW,Bool.and_eq_true]at ao
  rcases List.mem_cons.1 hc with rfl|hc
  ·have aS:=hf c (by simp)
   cases c with
   |d1 i f x=>
    have aa:=ao.1
    simp only[bU.lt,Bool.and_eq_true]at aa;simp only[bU.ok]at aS⊢;rw[h i (eT aa.1),fl h aa.2];exact aS
   |d2 i f x y=>
    have aa:=ao.1
    simp only[bU.lt,Bool.and_eq_true]at aa;simp only[bU.ok]at aS⊢;rw[h i (eT aa.1),fl h aa.2.1,fl h aa.2.2];exact aS
   |rg i b=>
    have aa:=ao.1
    simp only[bU.lt,Bool.and_eq_true]at aa;simp only[bU.ok]at aS⊢;rw[h i (eT aa.1),sf h aa.2];exact aS
   |dJ g b=>
    simp only[bU.ok]at aS⊢;rw[fl h (x:=g) ao.1];exact aS
  ·exact ie h ao.2 (fun c hc=>hf c (by simp[hc])) c hc
theorem y4(ad:S.cv)(x:Operand):(S.aX N x).lt S.k=true:=by
 cases x with
 |tmp t=>
  simp only[ar.aX]
  split
  ·refine H3 ?_
   unfold ar.at
   split
   ·rename_i x hx;exact ad.l _ x hx
   ·rfl
  ·rfl
 |const v=>simp only[ar.aX];split<;>rfl
 |global g=>rfl
 |func f=>rfl
end
def bQ.lt(k:Nat):bQ→Bool
 | .qY _ x=>x.lt k
 | .f1 _ x=>x.lt k
 | .f2 _ x y=>x.lt k&&y.lt k
 | .eR _ x lo hi=>x.lt k&&(ab.cB k lo.toList&&ab.cB k hi.toList)
 | .uu x lo hi=>x.lt k&&(ab.cB k lo.toList&&ab.cB k hi.toList)
 | .Cb _ g x y=>g.lt k&&(x.lt k&&y.lt k)
 | .yX _ _ l m=>ab.cB k l&&ab.cB k m
 | .wh _ l=>ab.cB k l
 | .up _ l i x=>l.lt k&&(i.lt k&&x.lt k)
 | .nth _ l i=>ab.cB k l&&i.lt k
 | .Cc _ x=>x.lt k
 | .ca _ l=>ab.cB k l
 | .uv _ p _=>Nat.blt p k
section
variable {e aw:Env} {k:Nat}
theorem wu(h:bX k e aw): ∀{rs:List aU} {l:List ab},ab.cB k l=true→gg aw rs l=gg e rs l
 |[],_,_=>by simp[gg]
 |_::_,[],_=>by simp[gg]
 |r::rs,x::xs,hx=>by
  simp only[ab.cB,Bool.and_eq_true]at hx;simp only[gg,wa h hx.1,wu h hx.2]
theorem Ce(h:bX k e aw){o:Option ab}(an:ab.cB k o.toList=true):nM aw o=nM e o:=by
 cases o with
 |none=>rfl
 |some x=>
  simp only[Option.toList,ab.cB,Bool.and_true]at an;simp only[nM,sf h an]
theorem Pm(h:bX k e aw): ∀{rs:List aU} {l m:List ab},ab.cB k l=true→ab.cB k m=true→kC aw rs l m=kC e rs l m
 |[r],[x],[y],ao,hm=>by
  simp only[ab.cB,Bool.and_eq_true]at ao hm;simp only[kC,fl h ao.1,fl h hm.1]
 |r::s::rs,x::xs,y::ys,ao,hm=>by
  simp only[ab.cB,Bool.and_eq_true]at ao hm
  have:=Pm h (rs:=s::rs) ao.2 hm.2
  cases xs<;>cases ys<;>simp only[kC,fl h ao.1,fl h hm.1,this]
 |[r],x::k8::xs,y::ys,ao,hm=>by
  simp only[ab.cB,Bool.and_eq_true]at ao hm;simp only[kC,fl h ao.1,fl h hm.1]
 |[r],[x],y::sa::ys,ao,hm=>by
  simp only[ab.cB,Bool.and_eq_true]at ao hm;simp only[kC,fl h ao.1,fl h hm.1]
 |[],_,_,_,_=>by simp[kC]
 |_::_,[],_,_,_=>by simp[kC]
 |_::_,_::_,[],_,_=>by simp[kC]
theorem Pn(h:bX k e aw){c:bN}: ∀{l:List ab},ab.cB k l=true→nN aw c l=nN e c l
 |[],_=>rfl
 |x::r,ao=>by
  simp only[ab.cB,Bool.and_eq_true]at ao;simp only[nN,wa h ao.1,Pn h ao.2]
theorem Po(h:bX k e aw){r:aU}: ∀{l:List ab} {n:Nat},ab.cB k l=true→sj aw r l n=sj e r l n
 |[],_,_=>rfl
 |[x],_,ao=>by
  simp only[ab.cB,Bool.and_eq_true]at ao;simp only[sj,fl h ao.1]
 |x::y::l,n,ao=>by
  simp only[ab.cB,Bool.and_eq_true]at ao
  have:=Po h (l:=y::l) (n:=n-1) (r:=r) (by simp only[ab.cB,Bool.and_eq_true];exact ao.2)
  simp only[sj,fl h ao.1,this]
theorem YT(M:List aW)(h:bX k e aw){x:bQ}(hx:x.lt k=true):x.den M aw=x.den M e:=by
 cases x with
 |qY r x=>simp only[bQ.den,wa h (x:=x) hx]
 |f1 f x=>simp only[bQ.den,fl h (x:=x) hx]
 |f2 f x y=>
  simp only[bQ.lt,Bool.and_eq_true]at hx;simp only[bQ.den,fl h hx.1,fl h hx.2]
 |eR c x lo hi=>
  simp only[bQ.lt,Bool.and_eq_true]at hx;simp only[bQ.den,fl h hx.1,Ce h hx.2.1,Ce h hx.2.2]
 |uu x lo hi=>
  simp only[bQ.lt,Bool.and_eq_true]at hx;simp only[bQ.den,fl h hx.1,Ce h hx.2.1,Ce h hx.2.2]
 |Cb r g x y=>
  simp only[bQ.lt,Bool.and_eq_true]at hx;simp only[bQ.den,fl h hx.1,wa h hx.2.1,wa h hx.2.2]
 |yX n rs l m=>
  simp only[bQ.lt,Bool.and_eq_true]at hx;simp only[bQ.den,Pm h hx.1 hx.2]
 |wh c l=>simp only[bQ.den,Pn h (l:=l) hx]
 |Cc c x=>simp only[bQ.den,fl h (x:=x) hx]
 |up c l i x=>
  simp only[bQ.lt,Bool.and_eq_true]at hx;simp only[bQ.den,fl h hx.1,sf h hx.2.1,wa h hx.2.2]
 |nth r l i=>
  simp only[bQ.lt,Bool.and_eq_true]at hx;simp only[bQ.den,Po h hx.1,sf h hx.2]
 |ca j l=>simp only[bQ.den,wu h (l:=l) hx]
 |uv rs p i=>simp only[bQ.den,h p (eT hx)]
end
end Go.aL
namespace Go.aL
open Go
section
variable {P:Program} {G:aY} {o:Oper} {s:aM}
theorem cT.sub{v bu:aD}(h:cT P G o s v)(ah:Sub v bu):cT P G o s bu:=fun E a w β ro af=>by
 obtain⟨c,aa,ae⟩:=h E a w β ro af
 exact⟨c,aa,ah _ _ _ _ _ _ ae⟩
def H5(op:BinOp)(k bo:IntKind):Bool:=
 match op with
 | .add=>decide (k=bo)
 | .sub=>decide (k=bo)
 | .mul=>decide (k=bo)
 | .quo=>decide (k=bo)
 | .rem=>decide (k=bo)
 | .and=>decide (k=bo)
 | .or=>decide (k=bo)
 | .xor=>decide (k=bo)
 | .shl=>true
 | .shr=>true
 |_=>false
def wv:BinOp→Bool
 | .eql=>true
 | .neq=>true
 | .lss=>true
 | .leq=>true
 | .gtr=>true
 | .geq=>true
 |_=>false
theorem YU{op:BinOp}{ck ty:TypeId}{x y:Operand}{k bo:IntKind}{a b:Int}(an:o.op= .binOp op ck x y ty)(hx:aI G s x= .au (.v (.int k a)))(ax:aI G s y= .au (.v (.int bo b)))(h:H5 op k bo=true)(hn:Ca op b):
 cT P G o s (.au (.v (.int k (aZ op k a b)))):=by
 cases op<;>simp only[H5,Bool.false_eq_true,decide_eq_true_eq]at h
 case add=>subst h;exact ot _ ck ty x y an hx ax (by simp[jO,aZ])
 case sub=>subst h;exact ot _ ck ty x y an hx ax (by simp[jO,aZ])
 case mul=>subst h;exact ot _ ck ty x y an hx ax (by simp[jO,aZ])
 case quo=>subst h;exact ot _ ck ty x y an hx ax (by have: ¬b=0:=hn;simp[jO,aZ,this])
 case rem=>subst h;exact ot _ ck ty x y an hx ax (by have: ¬b=0:=hn;simp[jO,aZ,this])
 case and=>subst h;exact vY ck ty x y an hx ax fun w=>by simp[binOp,Op.intBits,aZ,aL.ln]
 case or=>subst h;exact vY ck ty x y an hx ax fun w=>by simp[binOp,Op.intBits,aZ,aL.kL]
 case xor=>subst h;exact vY ck ty x y an hx ax fun w=>by simp[binOp,Op.intBits,aZ,aL.jf]
 case shl=>exact ot _ ck ty x y an hx ax (by have hn:0≤b:=hn;have: ¬b<0:=(by omega);simp[jO,aZ,this])
 case shr=>exact ot _ ck ty x y an hx ax (by have hn:0≤b:=hn;have: ¬b<0:=(by omega);simp[jO,aZ,this])
theorem YV{op:BinOp}{ck ty:TypeId}{x y:Operand}{k:IntKind}{a b:Int}(an:o.op= .binOp op ck x y ty)(hx:aI G s x= .au (.v (.int k a)))(ax:aI G s y= .au (.v (.int k b)))(h:wv op=true):
 cT P G o s (.au (.v (.bool (yW op a b)))):=by
 cases op<;>simp only[wv,Bool.false_eq_true]at h
 all_goals exact ot _ ck ty x y an hx ax (by simp[jO,BA,yW])
theorem YW{op:BinOp}{ck ty:TypeId}{x y:Operand}{a b:ByteArray}(an:o.op= .binOp op ck x y ty)(hx:aI G s x= .au (.v (.string a)))(ax:aI G s y= .au (.v (.string b)))(h:wv op=true):
 cT P G o s (.au (.v (.bool (bb op a b)))):=by
 cases op<;>simp only[wv,Bool.false_eq_true]at h
 all_goals exact ot _ ck ty x y an hx ax (by simp[jO,bb])
def y5(G:aY)(s:aM)(o:Option Operand)(z:Option Int):Prop:=
 match o,z with
 |none,none=>True
 |some y,some z=>∃k,aI G s y= .au (.v (.int k z))
 |_,_=>False
theorem Pp(i:bN)(ls:List (fZ i)){t:TypeId}{x:Operand}{lo hi:Option Operand}{oK lL:Option Int}(an:o.op= .slice t x lo hi none)(aG:jP P t=some (c5 i))(hx:aI G s x= .au (.li i ls))(ay:y5 G s lo oK)(aV:y5 G s hi lL)
 (hn:eo ls.length oK lL):me P G o s (.au (.li i (Pd ls oK lL))):=by
 cases lo with
 |none=>
  cases oK with
  |some _=>exact ay.elim
  |none=>
  cases hi with
  |none=>
   cases lL with
   |some _=>exact aV.elim
   |none=>
   have:=B7 i ls (l:=0) (h:=ls.length) an aG hx (.inl ⟨rfl,rfl⟩) (.inl ⟨rfl,rfl⟩) (Nat.zero_le _) (Nat.le_refl _)
   rw[List.take_length,List.drop_zero]at this;exact this
  |some y=>
   cases lL with
   |none=>exact aV.elim
   |some h=>
   obtain⟨k,ax⟩:=aV
   have hn:0≤h∧h≤(ls.length:Int):=hn
   obtain⟨n,rfl⟩: ∃n:Nat,h=(n:Int):=⟨h.toNat,by omega⟩
   have:=B7 i ls (l:=0) (h:=n) an aG hx (.inl ⟨rfl,rfl⟩) (.inr ⟨y,k,rfl,ax⟩) (Nat.zero_le _) (by omega)
   rw[List.drop_zero]at this;exact this
 |some y=>
  cases oK with
  |none=>exact ay.elim
  |some a=>
  obtain⟨k,ax⟩:=ay
  cases hi with
  |none=>
   cases lL with
   |some _=>exact aV.elim
   |none=>
   have hn:0≤a∧a≤(ls.length:Int):=hn
   obtain⟨n,rfl⟩: ∃n:Nat,a=(n:Int):=⟨a.toNat,by omega⟩
   have:=B7 i ls (l:=n) (h:=ls.length) an aG hx (.inr ⟨y,k,rfl,ax⟩) (.inl ⟨rfl,rfl⟩) (by omega) (Nat.le_refl _)
   rw[List.take_length]at this;exact this
  |some q4=>
   cases lL with
   |none=>exact aV.elim
   |some h=>
   obtain⟨iv,H6⟩:=aV
   have hn:0≤a∧a≤h∧h≤(ls.length:Int):=hn
   obtain⟨n,rfl⟩: ∃n:Nat,a=(n:Int):=⟨a.toNat,by omega⟩
   obtain⟨m,rfl⟩: ∃n:Nat,h=(n:Int):=⟨h.toNat,by omega⟩
   exact B7 i ls (l:=n) (h:=m) an aG hx (.inr ⟨y,k,rfl,ax⟩) (.inr ⟨q4,iv,rfl,H6⟩) (by omega) (by omega)
theorem YX(b:ByteArray){t:TypeId}{x:Operand}{lo hi:Option Operand}{oK lL:Option Int}(an:o.op= .slice t x lo hi none)(aG:P.underlying t=some .string)(hx:aI G s x= .au (.v (.string b)))(ay:y5 G s lo oK)(aV:y5 G s hi lL)
 (hn:eo b.size oK lL):cT P G o s (.au (.v (.string (bw b oK lL)))):=by
 cases lo with
 |none=>
  cases oK with
  |some _=>exact ay.elim
  |none=>
  cases hi with
  |none=>
   cases lL with
   |some _=>exact aV.elim
   |none=>exact BQ t x none none an aG hx (l:=0) (h:=b.size) (.inl ⟨rfl,rfl⟩) (.inl ⟨rfl,rfl⟩) (Nat.zero_le _) (Nat.le_refl _)
  |some y=>
   cases lL with
   |none=>exact aV.elim
   |some h=>
   obtain⟨k,ax⟩:=aV
   have hn:0≤h∧h≤(b.size:Int):=hn
   obtain⟨n,rfl⟩: ∃n:Nat,h=(n:Int):=⟨h.toNat,by omega⟩
   exact BQ t x none _ an aG hx (l:=0) (h:=n) (.inl ⟨rfl,rfl⟩) (.inr ⟨y,k,rfl,ax⟩) (Nat.zero_le _) (by omega)
 |some y=>
  cases oK with
  |none=>exact ay.elim
  |some a=>
  obtain⟨k,ax⟩:=ay
  cases hi with
  |none=>
   cases lL with
   |some _=>exact aV.elim
   |none=>
   have hn:0≤a∧a≤(b.size:Int):=hn
   obtain⟨n,rfl⟩: ∃n:Nat,a=(n:Int):=⟨a.toNat,by omega⟩
   exact BQ t x _ none an aG hx (l:=n) (h:=b.size) (.inr ⟨y,k,rfl,ax⟩) (.inl ⟨rfl,rfl⟩) (by omega) (Nat.le_refl _)
  |some q4=>
   cases lL with
   |none=>exact aV.elim
   |some h=>
   obtain⟨iv,H6⟩:=aV
   have hn:0≤a∧a≤h∧h≤(b.size:Int):=hn
   obtain⟨n,rfl⟩: ∃n:Nat,a=(n:Int):=⟨a.toNat,by omega⟩
   obtain⟨m,rfl⟩: ∃n:Nat,h=(n:Int):=⟨h.toNat,by omega⟩
   exact BQ t x _ _ an aG hx (l:=n) (h:=m) (.inr ⟨y,k,rfl,ax⟩) (.inr ⟨q4,iv,rfl,H6⟩) (by omega) (by omega)
end
def Cf(P:Program)(t:TypeId):Option aU:=
 match P.underlying t with
 |some (.int k)=>some (.int k)
 |some .bool=>some .bool
 |some .string=>some .str
 |_=>none
def oL(P:Program):Nat→Nat→List Field→Option (List aU)
 |0,_,_=>none
 |_+1,_,[]=>some []
 |d+1,k,f::fs=>
  if f.name= "_" ||f.offset != k then none
  else match mP P f.type with
   |some gs=>match P.info? f.type with
    |some inf=>match oL P d 0 gs,oL P d (k+inf.size) fs with
     |some a,some b=>match Nat.beq a.length inf.size with
      |true=>some (a++b)
      |false=>none
     |_,_=>none
    |none=>none
   |none=>match Cf P f.type with
    |some r=>match oL P d (k+1) fs with
     |some l=>some (r::l)
     |none=>none
    |none=>none
def sn:(r:aU)→r.den→Value
 | .int k,n=>.int k n
 | .bool,b=>.bool b
 | .str,x=>.string x
 |_,_=>undef
def aU.cmp:aU→Bool
 | .int _=>true
 | .bool=>true
 | .str=>true
 |_=>false
def y6(d:aB):Value:=sn d.r d.v
def nf:List aB→List aB→Bool
 |d::ds,c::cs=>qZ d.r d.v (c.as d.r)&&nf ds cs
 |_,_=>true
theorem YY{P:Program}{t:TypeId}{r:aU}(h:Cf P t=some r)(x y:r.den):qH P t (sn r x)=true∧mO (sn r x) (sn r y)=some (qZ r x y):=by
 unfold Cf at h
 split at h
 ·rename_i k hu;cases h;simp[sn,qH,hu,mO,qZ]
 ·rename_i hu;cases h;simp[sn,qH,hu,mO,qZ]
 ·rename_i hu;cases h;simp[sn,qH,hu,mO,qZ]
 ·cases h
theorem Pq: ∀{a c:List aB} (b d:List aB),a.length=c.length→nf (a++b) (c++d)=(nf a c&&nf b d)
 |[],[],_,_,_=>by simp[nf]
 |x::a,y::c,b,d,h=>by
  simp only[List.cons_append,nf,Pq (a:=a) (c:=c) b d (by simpa using h),Bool.and_assoc]
 |[],_::_,_,_,h=>by cases h
 |_::_,[],_,_,h=>by cases h
theorem Cg{P:Program}: ∀(d k:Nat) (fs:List Field) (rs:List aU),oL P d k fs=some rs→∀(as cx:List aB),as.map aB.r=rs→cx.map aB.r=rs→pv P d k fs (as.map y6) (cx.map y6)=some (nf as cx)
 |0,_,_,_,h,_,_,_,_=>by cases h
 |d+1,k,[],rs,h,as,cx,aK,ad=>by
  simp only[oL,Option.some.injEq]at h;subst h
  cases mb aK
  cases mb ad
  rfl
 |d+1,k,f::fs,rs,h,as,cx,aK,ad=>by
  simp only[oL]at h;simp only[pv]
  split at h
  ·cases h
  ·rename_i hc
   rw[if_neg hc]
   cases ah:mP P f.type with
   |some gs=>
    rw[ah]at h;simp only at h⊢
    cases hi:P.info? f.type with
    |none=>rw[hi]at h;cases h
    |some inf=>
     rw[hi]at h;simp only at h⊢
     split at h
     ·rename_i u v aa ae
      split at h
      ·rename_i ao
       simp only[Option.some.injEq]at h;subst h
       have ao:=Nat.eq_of_beq_eq_true ao
       have Pr:(as.take inf.size).map aB.r=u:=by rw[List.map_take,aK,←ao,List.take_left]
       have YZ:(as.drop inf.size).map aB.r=v:=by rw[List.map_drop,aK,←ao,List.drop_left]
       have tb:(cx.take inf.size).map aB.r=u:=by rw[List.map_take,ad,←ao,List.take_left]
       have Y0:(cx.drop inf.size).map aB.r=v:=by rw[List.map_drop,ad,←ao,List.drop_left]
       rw[←List.map_take,←List.map_take,←List.map_drop,←List.map_drop,Cg d 0 gs u aa _ _ Pr tb,Cg d _ fs v ae _ _ YZ Y0];simp only[Option.some.injEq];rw[←Pq _ _ (by have aa:=congrArg List.length Pr;have ae:=congrArg List.length tb;simp only[List.length_map]at aa ae;omega),List.take_append_drop,List.take_append_drop]
      ·cases h
     ·cases h
   |none=>
    rw[ah]at h;simp only at h⊢
    split at h
    ·rename_i r af
     split at h
     ·rename_i l ao
      simp only[Option.some.injEq]at h;subst h;obtain⟨a,zcU,rfl,Ps,xv⟩:=lI aK;obtain⟨b,zcV,rfl,ix,pA⟩:=lI ad;obtain⟨zcW,bg⟩:=a;obtain⟨zcX,ke⟩:=b;simp only at Ps ix;subst Ps;subst ix;obtain⟨g1,g2⟩:=YY af bg ke;simp only[List.map_cons,y6,g1,g2,if_true,nf,cQ];rw[Cg d _ fs l ao _ _ xv pA]
     ·cases h
    ·cases h
theorem Ch{P:Program}: ∀(d k:Nat) (fs:List Field) (rs:List aU),oL P d k fs=some rs→∀r∈rs,r.cmp=true
 |0,_,_,_,h,_,_=>by cases h
 |d+1,k,[],rs,h,r,af=>by
  simp only[oL,Option.some.injEq]at h;subst h;cases af
 |d+1,k,f::fs,rs,h,r,af=>by
  simp only[oL]at h
  split at h
  ·cases h
  ·cases ah:mP P f.type with
   |some gs=>
    rw[ah]at h;simp only at h
    cases hi:P.info? f.type with
    |none=>rw[hi]at h;cases h
    |some inf=>
     rw[hi]at h;simp only at h
     split at h
     ·rename_i u v aa ae
      split at h
      ·simp only[Option.some.injEq]at h
       subst h
       rcases List.mem_append.1 af with q|q
       ·exact Ch d 0 gs u aa r q
       ·exact Ch d _ fs v ae r q
      ·cases h
     ·cases h
   |none=>
    rw[ah]at h;simp only at h
    split at h
    ·rename_i er dS
     split at h
     ·rename_i l ao
      simp only[Option.some.injEq]at h;subst h
      rcases List.mem_cons.1 af with rfl|q
      ·unfold Cf at dS
       split at dS<;>first|(cases dS;rfl)|cases dS
      ·exact Ch d _ fs l ao r q
     ·cases h
    ·cases h
theorem Y1{r:aU}(h:r.cmp=true)(x:r.den):fM r x= .v (sn r x):=by
 cases r<;>first|rfl|cases h
theorem y7{G:aY}{e:Env}: ∀{rs:List aU} {l:List ab},hJ rs l=true→(∀r∈rs,r.cmp=true)→gY (ab.bP G e l)=some ((hU e rs l).map y6)
 |[],[],_,_=>rfl
 |[],_::_,h,_=>by cases h
 |_::_,[],h,_=>by cases h
 |r::rs,x::xs,h,hc=>by
  simp only[hJ,Bool.and_eq_true]at h
  have aa:x.den G e= .au (fM r (x.aH e r)):=YN h.1 (by have:=hc r (by simp);cases r<;>first|rfl|cases this)
  simp only[ab.bP,hU,aa,Y1 (hc r (by simp)),gY,y7 h.2 fun r af=>hc r (by simp[af]),List.map_cons,y6]
theorem Pt{e:Env}: ∀{rs:List aU} {l m:List ab},hJ rs l=true→hJ rs m=true→kC e rs l m=nf (hU e rs l) (hU e rs m)
 |[],[],[],_,_=>rfl
 |[],_::_,_,h,_=>by cases h
 |[],[],_::_,_,h=>by cases h
 |_::_,[],_,h,_=>by cases h
 |_::_,_::_,[],_,h=>by cases h
 |[r],[x],[y],_,_=>by simp[kC,hU,nf,cQ]
 |[r],x::k8::xs,_::_,h,_=>by simp[hJ]at h
 |[r],[x],y::sa::ys,_,h=>by simp[hJ]at h
 |r::s::rs,x::xs,y::ys,h,h'=>by
  simp only[hJ,Bool.and_eq_true]at h h'
  have:=Pt (e:=e) (rs:=s::rs) (l:=xs) (m:=ys) h.2 h'.2
  cases xs with
  |nil=>simp[hJ]at h
  |cons k8 xs=>
   cases ys with
   |nil=>simp[hJ]at h'
   |cons sa ys=>
    have aq:nf (hU e (r::s::rs) (x::k8::xs)) (hU e (r::s::rs) (y::sa::ys))=(qZ r (x.aH e r) (y.aH e r)&&nf (hU e (s::rs) (k8::xs)) (hU e (s::rs) (sa::ys))):=by
     simp only[hU,nf,cQ]
    rw[aq,←this];simp only[kC]
    cases qZ r (x.aH e r) (y.aH e r)<;>rfl
section
variable {P:Program} {G:aY} {o:Oper} {N B:Nat} {e:Env} {S:ar}
theorem Pu(hf: ∀c∈S.g,c.ok e){n:Bool}{op:BinOp}(wx:op=bif n then .neq else .eql){ck ty:TypeId}{x y:Operand}(an:o.op= .binOp op ck x y ty){fs:List Field}{rs:List aU}(h:mP P ck=some fs)(af:oL P 64 0 fs=some rs){l m:List ab}(hx:S.aX N x= .cD l)(ax:S.aX N y= .cD m)
 (ao:hJ rs l=true)(hm:hJ rs m=true):cT P G o (S.den G N B e) (.au (.v (.bool (bif n then !kC e rs l m else kC e rs l m)))):=by
 have hc:=Ch 64 0 fs rs af
 have gF:aI G (S.den G N B e) x= .agg (ab.bP G e l):=by rw[bI hf,hx];rfl
 have mg:aI G (S.den G N B e) y= .agg (ab.bP G e m):=by rw[bI hf,ax];rfl
 have ad:=Cg 64 0 fs rs af _ _ (B9 G e ao).1 (B9 G e hm).1
 rw[←Pt ao hm]at ad
 cases n with
 |true=>
  subst wx;exact N0 ck ty x y an h gF mg (y7 ao hc) (y7 hm hc) ad
 |false=>
  subst wx;exact NZ ck ty x y an h gF mg (y7 ao hc) (y7 hm hc) ad
end
end Go.aL
namespace Go.aL
open Go
structure dK where
 xs:List bQ
 ns:List fE
 v:ab
def ab.rt:ab→Option aU
 | .bg r _=>match r.one with
  |true=>some r
  |false=>none
 | .fd _ _ _ r=>match r.one with
  |true=>some r
  |false=>none
 | .cs (.int k _)=>some (.int k)
 | .cs (.bool _)=>some .bool
 | .cs (.string _)=>some .str
 |_=>none
theorem y8(r:aU):jr r r=true:=decide_eq_true rfl
theorem H7{x:ab}{r:aU}(h:x.rt=some r):x.fz r=true∧x.isNil=false:=by
 unfold ab.rt at h
 split at h
 ·split at h
  ·rename_i aa;cases h;exact⟨by simp[ab.fz,y8,aa],rfl⟩
  ·cases h
 ·split at h
  ·rename_i aa;cases h;exact⟨by simp[ab.fz,y8,aa],rfl⟩
  ·cases h
 ·cases h;exact⟨by simp[ab.fz,y8],rfl⟩
 ·cases h;exact⟨by simp[ab.fz,y8],rfl⟩
 ·cases h;exact⟨by simp[ab.fz,y8],rfl⟩
 ·cases h
theorem gG{G:aY}{e:Env}{x:ab}{r:aU}(h:x.rt=some r):x.den G e= .au (fM r (x.aH e r)):=HT (H7 h).1 (H7 h).2
theorem jv{G:aY}{e:Env}{x:ab}{k:IntKind}(h:x.rt=some (.int k)):x.den G e= .au (.v (.int k (x.aH e (.int k)))):=gG h
theorem mh{e:Env}{x:ab}{k:IntKind}(h:x.rt=some (.int k)):cc (x.dyn e)=x.aH e (.int k):=by
 obtain⟨aa,ae⟩:=H7 h
 unfold ab.aH
 rw[Pb ae]
 cases x with
 |bg q i=>
  simp only[ab.fz,Bool.and_eq_true]at aa
  cases iz aa.1
  simp only[ab.dyn,cQ,cc]
 |fd c i j q=>
  simp only[ab.fz,Bool.and_eq_true]at aa
  cases iz aa.1
  simp only[ab.dyn,cQ,cc]
 |cs v=>
  cases v with
  |int bo n=>
   cases iz aa
   simp only[ab.dyn,cQ,cc]
  |bool b=>cases iz aa
  |string s=>cases iz aa
  |slice a n c=>unfold ab.fz at aa;split at aa<;>first|cases aa|simp_all
  |_=>cases aa
 |_=>cases aa
def isLen(f:eQ)(x:ab)(n:Nat):List bU→Bool
 |[]=>false
 | .d1 i g y::r=>match Nat.beq i n&&(decide (g=f)&&y2 y x)with
  |true=>true
  |false=>isLen f x n r
 |_::r=>isLen f x n r
theorem wy{f:eQ}{x:ab}{n:Nat}{e:Env}: ∀{l:List bU},isLen f x n l=true→(∀c∈l,c.ok e)→Env.at e n=⟨f.c,f.den (x.aH e f.a)⟩
 | .d1 i g y::r,h,hc=>by
  simp only[isLen]at h
  split at h
  ·rename_i ad
   simp only[Bool.and_eq_true,decide_eq_true_eq]at ad
   have:=hc (.d1 i g y) (by simp)
   simp only[bU.ok]at this;rw[←Nat.eq_of_beq_eq_true ad.1,this,ad.2.1,H0 ad.2.2]
  ·exact wy h fun c hm=>hc c (by simp[hm])
 | .d2 _ _ _ _::r,h,hc=>wy (l:=r) h fun c hm=>hc c (by simp[hm])
 | .rg _ _::r,h,hc=>wy (l:=r) h fun c hm=>hc c (by simp[hm])
 | .dJ _ _::r,h,hc=>wy (l:=r) h fun c hm=>hc c (by simp[hm])
def Pv(f:eQ)(x:ab)(i:Nat)(all:List bU):bU→Bool
 | .rg j (.bg (.int .i64) n)=>Nat.beq i j&&isLen f x n all
 |_=>false
def Ci(f:eQ)(x:ab)(i:Nat)(all:List bU):List bU→Bool
 |[]=>false
 |c::r=>match Pv f x i all c with
  |true=>true
  |false=>Ci f x i all r
theorem H8{f:eQ}{x:ab}{i:Nat}{e:Env}{all:List bU}{L:Int}(fA: ∀n,isLen f x n all=true→Env.at e n=⟨.int .i64,L⟩): ∀{l:List bU},Ci f x i all l=true→(∀c∈l,c.ok e)→0≤cc (Env.at e i)∧cc (Env.at e i)<L
 |c::r,h,hc=>by
  simp only[Ci]at h
  split at h
  ·rename_i ad
   unfold Pv at ad
   split at ad
   ·rename_i j n
    simp only[Bool.and_eq_true]at ad
    have aa:=hc (.rg j (.bg (.int .i64) n)) (by simp)
    simp only[bU.ok,ab.dyn,fA n ad.2,cQ,cc]at aa;rw[←Nat.eq_of_beq_eq_true ad.1]at aa;exact aa
   ·cases ad
  ·exact H8 fA h fun c hm=>hc c (by simp[hm])
def y9(len j:Nat):List bU→Bool
 | .rg i (.cs (.int _ (.ofNat m)))::r=>(Nat.beq i j&&Nat.ble m len)||y9 len j r
 |_::r=>y9 len j r
 |[]=>false
theorem H9{len j:Nat}{e:Env}: ∀{l:List bU},y9 len j l=true→(∀c∈l,c.ok e)→0≤cc (Env.at e j)∧cc (Env.at e j)<(len:Int)
 |[],h,_=>by cases h
 |c::r,h,hc=>by
  unfold y9 at h
  split at h
  ·rename_i i k m _ heq
   cases heq;simp only[Bool.or_eq_true,Bool.and_eq_true]at h
   rcases h with⟨aa,ae⟩|h
   ·have aq:0≤cc (Env.at e i)∧cc (Env.at e i)<(m:Int):=hc (.rg i (.cs (.int k (.ofNat m)))) (by simp)
    rw[←Nat.eq_of_beq_eq_true aa]
    have:=Nat.le_of_ble_eq_true ae
    omega
   ·exact H9 h fun c hm=>hc c (by simp[hm])
  ·rename_i er _ heq
   cases heq;exact H9 h fun c hm=>hc c (by simp[hm])
  ·rename_i heq;cases heq
def wz(g:List bU)(len:Nat)(i:ab):List fE:=
 match i with
 | .bg (.int _) j=>match y9 len j g with
  |true=>[]
  |false=>[.nth len i]
 |_=>[.nth len i]
theorem Cj{M:List aW}{g:List bU}{len:Nat}{i:ab}{e:Env}(ag: ∀c∈g,c.ok e)(h: ∀n∈wz g len i,n.ok M e):0≤cc (i.dyn e)∧cc (i.dyn e)<(len:Int):=by
 unfold wz at h
 split at h
 ·rename_i k j
  split at h
  ·rename_i ad
   have:=H9 ad ag
   simp only[ab.dyn]
   by_cases af:(Env.at e j).r= .int k
   ·rw[BX af];exact this
   ·have aS:cc ⟨.int k,(Env.at e j).as (.int k)⟩=0:=by
     unfold aB.as
     split
     ·rename_i a8 _;exact absurd a8 af
     ·rfl
    rw[aS];omega
  ·exact h _ (List.mem_singleton.2 rfl)
 ·exact h _ (List.mem_singleton.2 rfl)
def oM(g:List bU)(f:eQ)(q:b4)(x i:ab):List fE:=
 match i with
 | .bg (.int _) j=>match Ci f x j g g with
  |true=>[]
  |false=>[.f2 0 q x i]
 |_=>[.f2 0 q x i]
theorem wA{M:List aW}{g:List bU}{c:bN}{k:IntKind}{x i:ab}{e:Env}(ag: ∀c∈g,c.ok e)(hi:i.rt=some (.int k))(h: ∀n∈oM g (.iA c) (.jX c k) x i,n.ok M e):
 0≤i.aH e (.int k)∧i.aH e (.int k)<(List.length (x.aH e (.li c)):Int):=by
 unfold oM at h
 split at h
 ·rename_i bo j
  split at h
  ·rename_i ad
   have:=H8 (f:=.iA c) (fun n hn=>wy hn ag) ad ag
   rw[←mh hi];simp only[ab.dyn]
   have aj:bo=k:=by simp only[ab.rt,aU.one]at hi;cases hi;rfl
   subst aj
   by_cases af:(Env.at e j).r= .int bo
   ·rw[BX af];exact this
   ·have aS:cc ⟨.int bo,(Env.at e j).as (.int bo)⟩=0:=by
     unfold aB.as
     split
     ·rename_i a8 _;exact absurd a8 af
     ·rfl
    rw[aS];exact⟨Int.le_refl _,Int.lt_of_le_of_lt this.1 this.2⟩
  ·exact h _ (List.mem_singleton.2 rfl)
 ·exact h _ (List.mem_singleton.2 rfl)
theorem Y2{M:List aW}{g:List bU}{k:IntKind}{x i:ab}{e:Env}(ag: ∀c∈g,c.ok e)(hi:i.rt=some (.int k))(h: ∀n∈oM g .nL (.qX k) x i,n.ok M e):
 0≤i.aH e (.int k)∧i.aH e (.int k)<(ByteArray.size (x.aH e .str):Int):=by
 unfold oM at h
 split at h
 ·rename_i bo j
  split at h
  ·rename_i ad
   have:=H8 (f:=.nL) (fun n hn=>wy hn ag) ad ag
   rw[←mh hi];simp only[ab.dyn]
   have aj:bo=k:=by simp only[ab.rt,aU.one]at hi;cases hi;rfl
   subst aj
   by_cases af:(Env.at e j).r= .int bo
   ·rw[BX af];exact this
   ·have aS:cc ⟨.int bo,(Env.at e j).as (.int bo)⟩=0:=by
     unfold aB.as
     split
     ·rename_i a8 _;exact absurd a8 af
     ·rfl
    rw[aS];exact⟨Int.le_refl _,Int.lt_of_le_of_lt this.1 this.2⟩
  ·exact h _ (List.mem_singleton.2 rfl)
 ·exact h _ (List.mem_singleton.2 rfl)
end Go.aL
namespace Go.aL
open Go
def kF(h:List (Nat × bC)):ab→Bool
 | .bg _ _=>true
 | .fd _ _ _ _=>true
 | .cs _=>true
 | .ip _ _ _=>true
 | .fn _ _ _=>true
 | .dz id _=>match dm h id with
  |some (.c8 _ _)=>true
  |_=>false
 | .gB id _ _ _=>match dm h id with
  |some (.c8 _ _)=>true
  |_=>false
 | .eV _ (some id) _=>match dm h id with
  |some (.c8 _ _)=>true
  |_=>false
 | .aN id=>match dm h id with
  |some (.rw _ _ _)=>true
  |_=>false
 | .gu id _ _=>match dm h id with
  |some (.rw _ _ _)=>true
  |_=>false
 |_=>false
def uz(S:ar):ab→Option (List ab)
 | .dz id off=>match dm S.h id with
  |some (.c8 _ l)=>some (l.drop off)
  |_=>none
 | .ip c i k=>some ((iT c i 0 (fh c)).drop k)
 |_=>none
def q5(P:Program)(t:TypeId)(l:List ab):Option ab:=
 match l2 P t with
 |some n=>match Nat.ble n l.length&&Nat.ble 1 n with
  |true=>some (.cD (l.take n))
  |false=>none
 |none=>match scalar P t,l with
  |true,y::_=>some y
  |_,_=>none
def so(S:ar):ab→Bool
 | .dz id _=>match dm S.h id with
  |some (.c8 _ _)=>true
  |_=>false
 | .gB id _ _ _=>match dm S.h id with
  |some (.c8 _ _)=>true
  |_=>false
 | .ip _ _ _=>true
 | .gu id _ _=>match dm S.h id with
  |some (.rw _ _ _)=>true
  |_=>false
 |_=>false
def wB(k:Nat):ab→Option ab
 | .dz id off=>some (.dz id (off+k))
 | .ip c i j=>some (.ip c i (j+k))
 | .gu id x off=>some (.gu id x (off+k))
 | .gB id off x n=>some (.gB id (off+k) x n)
 |_=>none
def q6(place:Nat→Option (Nat × Nat)):List ab→List (Nat × ab)→Option (List ab)
 |l,[]=>some l
 |l,(i,v)::rest=>match place i with
  |some (off,size)=>match Nat.beq v.cells.length size&&Nat.ble (off+size) l.length with
   |true=>q6 place (dW l off v.cells) rest
   |false=>none
  |none=>none
section
variable {P:Program} {G:aY} {o:Oper} {N B:Nat} {e:Env} {S:ar} {M:List aW}
theorem Pw{h:List (Nat × bC)}{x:ab}(hx:kF h x=true):ek (cK G e h) (x.den G e)=true∧cy (x.den G e)=[x.den G e]:=by
 cases x with
 |dz id off=>
  simp only[kF]at hx
  split at hx
  ·rename_i t l ag
   simp[ab.den,ek,eN,ag,bC.den,cy]
  ·cases hx
 |gB id off x n=>
  simp only[kF]at hx
  split at hx
  ·rename_i t l ag
   simp[ab.den,ek,eN,ag,bC.den,cy]
  ·cases hx
 |aN id=>
  simp only[kF]at hx
  split at hx
  ·rename_i t c y ag
   simp[ab.den,ek,eN,ag,bC.den,cy]
  ·cases hx
 |gu id x off=>
  simp only[kF]at hx
  split at hx
  ·rename_i t c y ag
   simp[ab.den,ek,eN,ag,bC.den,cy]
  ·cases hx
 |cD l=>cases hx
 |tp l=>cases hx
 |iS id=>cases hx
 |fk g b x=>cases hx
 |lJ g off=>cases hx
 |top=>cases hx
 |cx k n=>cases hx
 |eV g id off=>
  cases id with
  |none=>cases hx
  |some id=>
   simp only[kF]at hx
   split at hx
   ·rename_i t l ag
    simp only[ab.den]
    cases g.aH e .bool<;>simp[ek,eN,ag,bC.den,cy]
   ·cases hx
 |_=>exact⟨rfl,rfl⟩
theorem wC{h:List (Nat × bC)}: ∀{l:List ab},l.all (kF h)=true→(ab.bP G e l).all (ek (cK G e h))=true
 |[],_=>rfl
 |x::r,hx=>by
  simp only[List.all_cons,Bool.and_eq_true]at hx;simp only[ab.bP,List.all_cons,(Pw hx.1).1,wC hx.2,Bool.and_self]
theorem uA{h:List (Nat × bC)}{x:ab}(hx:x.cells.all (kF h)=true):cy (x.den G e)=ab.bP G e x.cells:=by
 cases x with
 |cD l=>rfl
 |_=>
  simp only[ab.cells,List.all_cons,List.all_nil,Bool.and_true]at hx;simp only[(Pw hx).2,ab.cells,ab.bP]
theorem Ia(k:Nat)(l:List ab):ab.bP G e (l.drop k)=(ab.bP G e l).drop k:=by rw[eD,eD,List.map_drop]
theorem ng(l:List ab):(ab.bP G e l).length=l.length:=by rw[eD,List.length_map]
theorem za{p:ab}{l:List ab}(h:uz S p=some l):fc (S.den G N B e).heap (p.den G e)=some (ab.bP G e l):=by
 unfold uz at h
 split at h
 ·split at h
  ·rename_i id off t hG ag
   cases h;simp only[ar.den,ab.den,fc,eN,ag,Option.map_some,bC.den];rw[eD,eD,List.map_drop]
  ·cases h
 ·rename_i c i k
  cases h;simp only[ab.den,fc,Option.some.injEq];rw[Ia,wc,List.map_drop]
 ·cases h
theorem Px{t:TypeId}{x:Operand}{l:List ab}{v:ab}(an:o.op= .load t x)(hc:fc (S.den G N B e).heap (aI G (S.den G N B e) x)=some (ab.bP G e l))(av:q5 P t l=some v):cT P G o (S.den G N B e) (v.den G e):=by
 unfold q5 at av
 split at av
 ·rename_i n hn
  split at av
  ·rename_i ad
   simp only[Bool.and_eq_true]at ad;cases av
   have:=Nw t x an hn hc (by rw[ng];exact Nat.le_of_ble_eq_true ad.1) (Nat.le_of_ble_eq_true ad.2)
   simp only[ab.den];rw[eD]at this;rw[eD,List.map_take];exact this
  ·cases av
 ·split at av
  ·rename_i y r ah
   cases av;exact GO t x an ah hc
  ·cases av
theorem uB{p:ab}(h:so S p=true):jN (S.den G N B e).heap (p.den G e)=true:=by
 unfold so at h
 split at h
 ·split at h
  ·rename_i ag;simp[ar.den,ab.den,jN,eN,ag,bC.den]
  ·cases h
 ·split at h
  ·rename_i ag;simp[ar.den,ab.den,jN,eN,ag,bC.den]
  ·cases h
 ·rfl
 ·split at h
  ·rename_i ag;simp[ar.den,ab.den,jN,eN,ag,bC.den]
  ·cases h
 ·cases h
theorem zb{k:Nat}{p q:ab}(h:wB k p=some q):qB k (p.den G e)=q.den G e:=by
 unfold wB at h
 split at h
 ·cases h;simp[ab.den,qB]
 ·cases h;simp[ab.den,qB,List.drop_drop,Nat.add_comm]
 ·cases h;simp[ab.den,qB]
 ·cases h;simp only[ab.den,qB,aD.ptr.injEq,true_and];omega
 ·cases h
theorem Ck{α β:Type}(f:α→β)(l:List α)(off:Nat)(vs:List α):(dW l off vs).map f=dW (l.map f) off (vs.map f):=by
 simp[dW,List.map_take,List.map_drop]
theorem Cl{pl:Nat→Option (Nat × Nat)}{h:List (Nat × bC)}: ∀{ps:List (Nat × ab)} {l ds:List ab},(ps.all fun p=>p.2.cells.all (kF h))=true→q6 pl l ps=some ds→jQ pl (ab.bP G e l) (ps.map fun p=>(p.1,p.2.den G e))=some (ab.bP G e ds)
 |[],l,ds,_,hf=>by
  simp only[q6,Option.some.injEq]at hf;subst hf;rfl
 |(i,v)::rest,l,ds,aK,hf=>by
  simp only[List.all_cons,Bool.and_eq_true]at aK;simp only[q6]at hf;simp only[List.map_cons,jQ]
  split at hf
  ·rename_i off size ak
   split at hf
   ·rename_i ad
    simp only[Bool.and_eq_true]at ad
    have aa:=Nat.eq_of_beq_eq_true ad.1
    have ae:=Nat.le_of_ble_eq_true ad.2
    have av:=uA (G:=G) (e:=e) aK.1
    simp only[ak,av,ng];rw[if_pos ⟨aa,ae⟩]
    have:=Cl aK.2 hf
    rw[eD]at this⊢;rw[Ck]at this;rw[eD];exact this
   ·cases hf
  ·cases hf
def j1(P:Program)(G:aY)(N B:Nat)(M:List aW)(o:Oper)(S:ar)(r:dK):Prop:=
 ∀e,(∀c∈S.g,c.ok e)→(∀(j:Nat) (x:bQ),r.xs[j]? =some x→Env.at e (S.k+j)=x.den M e)→(∀n∈r.ns,n.ok M e)→cT P G o (S.den G N B e) (r.v.den G e)
end
def Ib(op:BinOp)(k bo:IntKind)(x y:ab):List fE:=
 match op with
 | .add=>[]
 | .sub=>[]
 | .mul=>[]
 | .and=>[]
 | .or=>[]
 | .xor=>[]
 | .quo=>match y with
  | .cs (.int _ n)=>match decide (n=0)with
   |false=>[]
   |true=>[.f2 0 (.iU op k bo) x y]
  |_=>[.f2 0 (.iU op k bo) x y]
 | .rem=>match y with
  | .cs (.int _ n)=>match decide (n=0)with
   |false=>[]
   |true=>[.f2 0 (.iU op k bo) x y]
  |_=>[.f2 0 (.iU op k bo) x y]
 |op=>match y with
  | .cs (.int _ n)=>match decide (0≤n)with
   |true=>[]
   |false=>[.f2 0 (.iU op k bo) x y]
  |_=>[.f2 0 (.iU op k bo) x y]
def Ic(P:Program)(S:ar)(op:BinOp)(ck:TypeId)(x y:ab):Option dK:=
 match x.rt,y.rt with
 |some (.int k),some (.int bo)=>match H5 op k bo with
  |true=>some ⟨[.f2 (.iU op k bo) x y],Ib op k bo x y,.bg (.int k) S.k⟩
  |false=>match wv op&&decide (bo=k)with
   |true=>some ⟨[.f2 (.oE op k) x y],[],.bg .bool S.k⟩
   |false=>none
 |some .str,some .str=>match wv op with
  |true=>some ⟨[.f2 (.we op) x y],[],.bg .bool S.k⟩
  |false=>match op with
   | .add=>some ⟨[.f2 .si x y],[.f2 0 .si x y],.bg .str S.k⟩
   |_=>none
 |some .bool,some .bool=>match op,BR P ck with
  | .eql,true=>some ⟨[.f2 (.sh false) x y],[],.bg .bool S.k⟩
  | .neq,true=>some ⟨[.f2 (.sh true) x y],[],.bg .bool S.k⟩
  |_,_=>none
 |_,_=>match x,y with
  | .cD l,.cD m=>match mP P ck with
   |some fs=>match oL P 64 0 fs with
    |some rs=>match hJ rs l&&hJ rs m,op with
     |true,.eql=>some ⟨[.yX false rs l m],[],.bg .bool S.k⟩
     |true,.neq=>some ⟨[.yX true rs l m],[],.bg .bool S.k⟩
     |_,_=>none
    |none=>none
   |none=>none
  |p,.cs (.pointer none)=>match P.underlying ck,so S p,op with
   |some (.pointer _),true,.eql=>some ⟨[],[],.cs (.bool false)⟩
   |some (.pointer _),true,.neq=>some ⟨[],[],.cs (.bool true)⟩
   |_,_,_=>none
  |_,_=>none
section
variable {P:Program} {G:aY} {o:Oper} {N B:Nat} {e:Env} {S:ar} {M:List aW}
theorem Y3{e:Env}{f:b4}{x y:ab}{k:Nat}(h:Env.at e k=(bQ.f2 f x y).den M e):(ab.bg f.c k).den G e= .au (fM f.c (f.den (x.aH e f.a) (y.aH e f.b))):=by
 simp only[ab.den,h,bQ.den,cQ]
theorem Y4{e:Env}{f:eQ}{x:ab}{k:Nat}(h:Env.at e k=(bQ.f1 f x).den M e):(ab.bg f.c k).den G e= .au (fM f.c (f.den (x.aH e f.a))):=by
 simp only[ab.den,h,bQ.den,cQ]
theorem pK{s:aM}{f:b4}{x y:ab}{k:Nat}(h:Env.at e k=(bQ.f2 f x y).den M e)(ah:cT P G o s (.au (fM f.c (f.den (x.aH e f.a) (y.aH e f.b))))):cT P G o s ((ab.bg f.c k).den G e):=by
 rw[Y3 h];exact ah
theorem pL{s:aM}{f:eQ}{x:ab}{k:Nat}(h:Env.at e k=(bQ.f1 f x).den M e)(ah:cT P G o s (.au (fM f.c (f.den (x.aH e f.a))))):cT P G o s ((ab.bg f.c k).den G e):=by
 rw[Y4 h];exact ah
theorem Y5{op:BinOp}{k bo:IntKind}{x y:ab}(ax:y.rt=some (.int bo))(h: ∀n∈Ib op k bo x y,n.ok M e):Ca op (y.aH e (.int bo)):=by
 have hc: ∀n iv,y= .cs (.int iv n)→y.aH e (.int bo)=n:=fun n iv a8=>by
  subst a8;simp only[ab.rt,Option.some.injEq,aU.int.injEq]at ax;subst ax;simp only[ab.aH,ab.fG,ab.dyn,cQ]
 have ah: ∀Cm,((∃q,Cm=q)→fE.ok M e (.f2 0 (.iU Cm k bo) x y)→Ca Cm (y.aH e (.int bo))):=fun Cm _ h=>h
 cases op<;>try exact trivial
 all_goals
  simp only[Ib]at h
  split at h
  ·rename_i iv n
   have hn:=hc n iv rfl
   split at h
   ·rename_i hd
    rw[hn];simp only[decide_eq_false_iff_not,decide_eq_true_eq]at hd;exact hd
   ·exact h _ (List.mem_singleton.2 rfl)
  ·exact h _ (List.mem_singleton.2 rfl)
theorem Y6{op:BinOp}{ck ty:TypeId}{x y:Operand}{r:dK}(an:o.op= .binOp op ck x y ty)(h:Ic P S op ck (S.aX N x) (S.aX N y)=some r):j1 P G N B M o S r:=fun e hf hx hn=>by
 unfold Ic at h
 split at h
 ·rename_i k bo aa ae
  have gF:aI G (S.den G N B e) x=_:=(bI hf x).trans (jv aa)
  have mg:aI G (S.den G N B e) y=_:=(bI hf y).trans (jv ae)
  split at h
  ·rename_i aK
   cases h;exact pK (f:=.iU op k bo) (hx 0 _ rfl) (YU an gF mg aK (Y5 ae hn))
  ·split at h
   ·rename_i hc
    cases h;simp only[Bool.and_eq_true,decide_eq_true_eq]at hc
    have aj:=hc.2
    subst aj;exact pK (f:=.oE op bo) (hx 0 _ rfl) (YV an gF mg hc.1)
   ·cases h
 ·rename_i aa ae
  have gF:aI G (S.den G N B e) x=_:=(bI hf x).trans (gG aa)
  have mg:aI G (S.den G N B e) y=_:=(bI hf y).trans (gG ae)
  split at h
  ·rename_i hc
   cases h;exact pK (f:=.we op) (hx 0 _ rfl) (YW an gF mg hc)
  ·split at h
   ·cases h
    exact pK (f:=.si) (hx 0 _ rfl) (Xx ck ty x y an gF mg (hn _ (List.mem_singleton.2 rfl)))
   ·cases h
 ·rename_i aa ae
  have gF:aI G (S.den G N B e) x=_:=(bI hf x).trans (gG aa)
  have mg:aI G (S.den G N B e) y=_:=(bI hf y).trans (gG ae)
  split at h
  ·rename_i aG
   cases h;exact pK (f:=.sh false) (hx 0 _ rfl) (NR ck ty x y an (BS aG) gF mg)
  ·rename_i aG
   cases h;exact pK (f:=.sh true) (hx 0 _ rfl) (NS ck ty x y an (BS aG) gF mg)
  ·cases h
 ·split at h
  ·rename_i l m ao hm
   split at h
   ·rename_i fs v7
    split at h
    ·rename_i rs qQ
     split at h
     ·rename_i ad
      cases h;simp only[Bool.and_eq_true]at ad
      have:=Pu (G:=G) (n:=false) (B:=B) (e:=e) hf rfl an v7 qQ ao hm ad.1 ad.2
      have aS:Env.at e S.k=_:=hx 0 _ rfl
      simp only[ab.den,aS,bQ.den,cQ,fM,lH];exact this
     ·rename_i ad
      cases h;simp only[Bool.and_eq_true]at ad
      have:=Pu (G:=G) (n:=true) (B:=B) (e:=e) hf rfl an v7 qQ ao hm ad.1 ad.2
      have aS:Env.at e S.k=_:=hx 0 _ rfl
      simp only[ab.den,aS,bQ.den,cQ,fM,lH];exact this
     ·cases h
    ·cases h
   ·cases h
  ·rename_i ak
   have key: ∀E a w β ro,c6 E G (S.den G N B e) a w β ro→so S (S.aX N x)=true→∃cP,a.eval x= .pointer (some cP):=fun E a w β ro af hi=>by
    obtain⟨cP,hc,_⟩:=ye (uB (G:=G) (N:=N) (B:=B) (e:=e) hi) (by have:=af.eval x;rw[bI hf]at this;exact this)
    exact⟨cP,hc⟩
   have pM: ∀E a w β ro,c6 E G (S.den G N B e) a w β ro→a.eval y= .pointer none:=fun E a w β ro af=>by
    refine af.en ?_
    rw[bI hf,ak];rfl
   split at h
   ·rename_i t hu hi
    cases h
    exact fun E a w β ro af=>by
     obtain⟨cP,hc⟩:=key E a w β ro af hi;exact⟨.bool false,by simp[execOp,an,hc,pM E a w β ro af,eqGuard_at_pointer,run_eql_pointer_nil w ck (some cP) (O7 hu)],.fK rfl⟩
   ·rename_i t hu hi
    cases h
    exact fun E a w β ro af=>by
     obtain⟨cP,hc⟩:=key E a w β ro af hi;exact⟨.bool true,by simp[execOp,an,hc,pM E a w β ro af,eqGuard_at_pointer,run_neq_pointer_nil w ck (some cP) (O7 hu)],.fK rfl⟩
   ·cases h
  ·cases h
end
end Go.aL
