/- TD, part C: laws of trees. Conditions: none. -/
import Derived.Test.YtmkpmgfieagphaaGreatDoorPTDb
namespace Go.Av
open Go

def stepO {R A X : Type} (f : R → X) : Step R A → Step X A
 | .ret r => .ret (f r)
 | .brk a => .brk a
 | .nxt a => .nxt a
theorem loopS_map {R A X : Type} (f : R → X) {b : Nat → A → Step R A} {c : Nat → A → Step X A} (h : ∀ i a, c i a = stepO f (b i a)) : ∀ (m k : Nat) (a : A), loopS c k m a = Sum.map f id (loopS b k m a)
 | 0, _, _ => rfl
 | m + 1, k, a => by
  simp only [loopS, h]
  cases b k a with
  | ret r => rfl
  | brk a => rfl
  | nxt a => exact loopS_map f h m (k + 1) a
theorem loopW_map {R A X : Type} (f : R → X) {b : A → Step R A} {c : A → Step X A} (h : ∀ a, c a = stepO f (b a)) : ∀ (m : Nat) (a : A), loopW c m a = Sum.map f id (loopW b m a)
 | 0, _ => rfl
 | m + 1, a => by
  simp only [loopW, h]
  cases b a with
  | ret r => rfl
  | brk a => rfl
  | nxt a => exact loopW_map f h m a
theorem endsW_map {R A X : Type} (f : R → X) {b : A → Step R A} {c : A → Step X A} (h : ∀ a, c a = stepO f (b a)) : ∀ (m : Nat) (a : A), endsW c m a ↔ endsW b m a
 | 0, _ => Iff.rfl
 | m + 1, a => by
  simp only [endsW, h]
  cases b a with
  | ret r => exact Iff.rfl
  | brk a => exact Iff.rfl
  | nxt a => exact endsW_map f h m a
theorem endR_map {X Y : Type} (g : X → Y) (m xid : Nat) (ca : List Ca) (K : Ek → SS → Env → X) (x : Ek) (S : SS) (e : Env) : stepO g (endR m xid ca K x S e) = endR m xid ca (fun x S e => g (K x S e)) x S e := by
 unfold endR
 split
 ·rfl
 ·split <;> rfl
section
variable {X : Type} {m xid : Nat} {ca : List Ca} {K : Ek → SS → Env → X} {x : Ek} {S : SS} {e : Env}
theorem endR_J (h : x.isJ m = true) : endR m xid ca K x S e = .nxt (pkL _ (caE S e ca)) := by unfold endR; rw [h]
theorem endR_X (h : x.isJ m = false) (h' : x.isX xid = true) : endR m xid ca K x S e = .brk (pkL _ (caE S e ca)) := by unfold endR; rw [h, h']
theorem endR_R (h : x.isJ m = false) (h' : x.isX xid = false) : endR m xid ca K x S e = .ret (K x S e) := by unfold endR; rw [h, h']
end
section
variable {M : List Md}
theorem fold_map : ∀ (t : Tr) {X Y : Type} (g : X → Y) (e : Env) (K : Ek → SS → Env → X) (d : X), g (t.fold M e K d) = t.fold M e (fun x S e' => g (K x S e')) (g d)
  | .lf _ _, _, _, _, _, _, _ => rfl
  | .lt _ _ t, _, _, g, _, K, d => fold_map t g _ K d
  | .nd _ t, _, _, g, _, K, d => fold_map t g _ K d
  | .it c a b, _, _, g, e, K, d => by
    simp only [Tr.fold]
    cases c.get1 e .bool with
    | true => exact fold_map a g e K d
    | false => exact fold_map b g e K d
  | .jn n a ps k, _, _, g, e, K, d => by
    simp only [Tr.fold]
    cases a.allJ n with
    | true => exact fold_map k g _ K d
    | false => cases a.fold M e (fun x _ _ => x.isJ n) false with
      | true => exact fold_map k g _ K d
      | false => exact fold_map a g e K d
  | .lp m xid bd ix ca a k, X, Y, g, e, K, d => by
    simp only [Tr.fold]
    rw [loopS_map g (c := fun i (v : caR ca) => bif a.allJ m
        then (.nxt (a.fold M (setC (Tri.put e ix ⟨.int .i64, (i : Int)⟩) ca v) (fun _ S e' => pkL _ (caE S e' ca)) v) : Step Y (caR ca))
        else a.fold M (setC (Tri.put e ix ⟨.int .i64, (i : Int)⟩) ca v) (endR m xid ca fun x S e => g (K x S e)) (.brk v))
      (b := fun i (v : caR ca) => bif a.allJ m
        then (.nxt (a.fold M (setC (Tri.put e ix ⟨.int .i64, (i : Int)⟩) ca v) (fun _ S e' => pkL _ (caE S e' ca)) v) : Step X (caR ca))
        else a.fold M (setC (Tri.put e ix ⟨.int .i64, (i : Int)⟩) ca v) (endR m xid ca K) (.brk v))
      (fun i v => by
        cases a.allJ m with
        | true => rfl
        | false =>
          simp only [cond_false]
          rw [fold_map a (stepO g)]
          simp only [endR_map]
          rfl)]
    generalize loopS _ _ _ _ = L
    cases L with
    | inl r => rfl
    | inr v => exact fold_map k g _ K d
  | .lg m xid ca a k, X, Y, g, e, K, d => by
    simp only [Tr.fold]
    rw [loopW_map g (c := fun (v : caR ca) => a.fold M (setC e ca v) (endR m xid ca fun x S e => g (K x S e)) (.brk v))
      (b := fun (v : caR ca) => a.fold M (setC e ca v) (endR m xid ca K) (.brk v))
      (fun v => by
        rw [fold_map a (stepO g)]
        simp only [endR_map]
        rfl)]
    generalize loopW _ _ _ = L
    cases L with
    | inl r => rfl
    | inr v => exact fold_map k g _ K d
  | .bad _, _, _, _, _, _, _ => rfl

abbrev Leaf := Ek × SS × Env
def run (M : List Md) (t : Tr) (e : Env) : Option Leaf := t.fold M e (fun x S e' => some (x, S, e')) none
theorem run_fold {t : Tr} {e e' : Env} {x : Ek} {S : SS} (h : run M t e = some (x, S, e')) {X : Type} (K : Ek → SS → Env → X) (d : X) : t.fold M e K d = K x S e' := by
 have := fold_map (M := M) t (fun (o : Option Leaf) => match o with | some (x, S, e') => K x S e' | none => d) e (fun x S e' => some (x, S, e')) none
 simp only at this
 rw [← this]
 unfold run at h
 rw [h]
theorem run_none {t : Tr} {e : Env} (h : run M t e = none) {X : Type} (K : Ek → SS → Env → X) (d : X) : t.fold M e K d = d := by
 have := fold_map (M := M) t (fun (o : Option Leaf) => match o with | some (x, S, e') => K x S e' | none => d) e (fun x S e' => some (x, S, e')) none
 simp only at this
 rw [← this]
 unfold run at h
 rw [h]
def rnd (M : List Md) (m xid : Nat) (ca : List Ca) (a : Tr) (e : Env) (v : caR ca) : Step (Option Leaf) (caR ca) :=
 match run M a e with
 | some (x, S, e') => endR m xid ca (fun x S e => some (x, S, e)) x S e'
 | none => .brk v
theorem rnd_fold (m xid : Nat) (ca : List Ca) (a : Tr) (e : Env) (v : caR ca) : a.fold M e (endR m xid ca fun x S e => some (x, S, e)) (.brk v) = rnd M m xid ca a e v := by
 unfold rnd
 split
 ·rename_i x S e' h
  exact run_fold h _ _
 ·rename_i h
  exact run_none h _ _
theorem fold_lp0 {m xid ix : Nat} {bd : Ex} {ca : List Ca} {a k : Tr} {e : Env} {X : Type} (K : Ek → SS → Env → X) (d : X) (h : a.allJ m = true → ∀ e, ∃ x S e', run M a e = some (x, S, e') ∧ x.isJ m = true) :
    (Tr.lp m xid bd ix ca a k).fold M e K d = Sum.elim (fun r => r) (fun v => k.fold M (setC e ca v) K d) (loopS (fun i (v : caR ca) => a.fold M (setC (Tri.put e ix ⟨.int .i64, (i : Int)⟩) ca v) (endR m xid ca K) (.brk v)) 0 (intD (bd.den M e)).toNat (pkL _ (caV e ca))) := by
  simp only [Tr.fold]
  cases hj : a.allJ m with
  | false => rfl
  | true =>
    have : (fun (i : Nat) (v : caR ca) => (.nxt (a.fold M (setC (Tri.put e ix ⟨.int .i64, (i : Int)⟩) ca v) (fun _ S e' => pkL _ (caE S e' ca)) v) : Step X (caR ca))) = fun (i : Nat) (v : caR ca) => a.fold M (setC (Tri.put e ix ⟨.int .i64, (i : Int)⟩) ca v) (endR m xid ca K) (.brk v) := by
      funext i v
      obtain ⟨x, S, e', h1, h2⟩ := h hj (setC (Tri.put e ix ⟨.int .i64, (i : Int)⟩) ca v)
      simp only [run_fold h1, endR, h2]
    simp only [cond_true]
    rw [this]
theorem lbl_run : ∀ {t : Tr} {f : Ek → Bool} {e : Env}, t.lbl f = true → ∃ x S e', run M t e = some (x, S, e') ∧ f x = true
  | .lf x S, _, e, h => ⟨x, S, e, rfl, h⟩
  | .lt _ _ t, _, _, h => lbl_run (t := t) h
  | .nd _ t, _, _, h => lbl_run (t := t) h
  | .it c a b, f, e, h => by
    simp only [Tr.lbl, Bool.and_eq_true] at h
    simp only [run, Tr.fold]
    cases c.get1 e .bool with
    | true => exact lbl_run (t := a) h.1
    | false => exact lbl_run (t := b) h.2
  | .jn n a ps k, f, e, h => by
    simp only [Tr.lbl, Bool.and_eq_true] at h
    obtain ⟨x, S, e', h1, h2⟩ := lbl_run (t := a) (e := e) h.1
    simp only [run, Tr.fold]
    cases a.allJ n with
    | true => exact lbl_run (t := k) h.2
    | false =>
      rw [run_fold h1]
      cases hx : x.isJ n with
      | true => exact lbl_run (t := k) h.2
      | false =>
        rw [hx, Bool.false_or] at h2
        exact ⟨x, S, e', h1, h2⟩
  | .lp m xid bd ix ca a k, f, e, h => by
    simp only [Tr.lbl, Bool.and_eq_true] at h
    have key : ∀ (n i : Nat) (v : caR ca), (∃ v', loopS (fun i (v : caR ca) => a.fold M (setC (Tri.put e ix ⟨.int .i64, (i : Int)⟩) ca v) (endR m xid ca fun x S e => some (x, S, e)) (.brk v)) i n v = .inr v') ∨
        ∃ x S e', loopS (fun i (v : caR ca) => a.fold M (setC (Tri.put e ix ⟨.int .i64, (i : Int)⟩) ca v) (endR m xid ca fun x S e => some (x, S, e)) (.brk v)) i n v = .inl (some (x, S, e')) ∧ f x = true := by
      intro n
      induction n with
      | zero => exact fun i v => .inl ⟨v, rfl⟩
      | succ n ih =>
        intro i v
        obtain ⟨x, S, e', h1, h2⟩ := lbl_run (t := a) (e := setC (Tri.put e ix ⟨.int .i64, (i : Int)⟩) ca v) h.1
        simp only [loopS, run_fold h1]
        cases hx : x.isJ m with
        | true =>
          rw [endR_J hx]
          exact ih (i + 1) _
        | false =>
          cases hy : x.isX xid with
          | true =>
            rw [endR_X hx hy]
            exact .inl ⟨_, rfl⟩
          | false =>
            rw [endR_R hx hy]
            rw [hx, hy, Bool.false_or, Bool.false_or] at h2
            exact .inr ⟨x, S, e', rfl, h2⟩
    unfold run
    rw [fold_lp0 _ _ fun hj e => lbl_run (t := a) (e := e) hj]
    rcases key (intD (bd.den M e)).toNat 0 (pkL _ (caV e ca)) with ⟨v', hv⟩ | ⟨x, S, e', hv, hf⟩
    · rw [hv]; exact lbl_run (t := k) h.2
    · rw [hv]; exact ⟨x, S, e', rfl, hf⟩
  | .lg m xid ca a k, f, e, h => by
    simp only [Tr.lbl, Bool.and_eq_true] at h
    have key : ∀ (n : Nat) (v : caR ca), (∃ v', loopW (fun (v : caR ca) => (a.fold M (setC e ca v) (endR m xid ca fun x S e => some (x, S, e)) (.brk v) : Step (Option Leaf) (caR ca))) n v = .inr v') ∨
        ∃ x S e', loopW (fun (v : caR ca) => (a.fold M (setC e ca v) (endR m xid ca fun x S e => some (x, S, e)) (.brk v) : Step (Option Leaf) (caR ca))) n v = .inl (some (x, S, e')) ∧ f x = true := by
      intro n
      induction n with
      | zero => exact fun v => .inl ⟨v, rfl⟩
      | succ n ih =>
        intro v
        simp only [loopW]
        obtain ⟨x, S, e', h1, h2⟩ := lbl_run (t := a) (e := setC e ca v) h.1
        rw [run_fold h1]
        cases hx : x.isJ m with
        | true =>
          rw [endR_J hx]
          exact ih _
        | false =>
          cases hy : x.isX xid with
          | true =>
            rw [endR_X hx hy]
            exact .inl ⟨_, rfl⟩
          | false =>
            rw [endR_R hx hy]
            rw [hx, hy, Bool.false_or, Bool.false_or] at h2
            exact .inr ⟨x, S, e', rfl, h2⟩
    simp only [run, Tr.fold]
    rcases key fuelW (pkL _ (caV e ca)) with ⟨v', hv⟩ | ⟨x, S, e', hv, hf⟩
    · rw [hv]; exact lbl_run (t := k) h.2
    · rw [hv]; exact ⟨x, S, e', rfl, hf⟩
  | .bad _, _, _, h => by cases h
theorem run_jn_t {n : Nat} {a k : Tr} {ps : List (Nat × Rt × Pl)} {e e1 : Env} {x : Ek} {S1 : SS} (h : run M a e = some (x, S1, e1)) (hx : x.isJ n = true) {X : Type} (K : Ek → SS → Env → X) (d : X) :
    (Tr.jn n a ps k).fold M e K d = k.fold M (setP e (fun r p => ⟨r, (p.sv S1).get e1 r⟩) ps) K d := by
  simp only [Tr.fold]
  cases a.allJ n with
  | true => simp only [run_fold h, cond_true]
  | false => simp only [run_fold h, hx, cond_true, cond_false]
theorem run_jn_f {n : Nat} {a k : Tr} {ps : List (Nat × Rt × Pl)} {e e1 : Env} {x : Ek} {S1 : SS} (h : run M a e = some (x, S1, e1)) (hx : x.isJ n = false) {X : Type} (K : Ek → SS → Env → X) (d : X) :
    (Tr.jn n a ps k).fold M e K d = K x S1 e1 := by
  simp only [Tr.fold]
  cases hj : a.allJ n with
  | true =>
    obtain ⟨x', S', e', h1, h2⟩ := lbl_run (M := M) (t := a) (e := e) hj
    rw [h1] at h
    cases h
    rw [hx] at h2
    cases h2
  | false => simp only [run_fold h, hx, cond_false]
theorem run_jn_n {n : Nat} {a k : Tr} {ps : List (Nat × Rt × Pl)} {e : Env} (h : run M a e = none) {X : Type} (K : Ek → SS → Env → X) (d : X) :
    (Tr.jn n a ps k).fold M e K d = d := by
  simp only [Tr.fold]
  cases hj : a.allJ n with
  | true =>
    obtain ⟨x', S', e', h1, h2⟩ := lbl_run (M := M) (t := a) (e := e) hj
    rw [h1] at h
    cases h
  | false => simp only [run_none h, cond_false]
theorem safe_jn_t {n : Nat} {a k : Tr} {ps : List (Nat × Rt × Pl)} {e e1 : Env} {x : Ek} {S1 : SS} (hs : (Tr.jn n a ps k).safe M e) (h : run M a e = some (x, S1, e1)) (hx : x.isJ n = true) :
    k.safe M (setP e (fun r p => ⟨r, (p.sv S1).get e1 r⟩) ps) := by
  have h1 := hs.2 (by rw [run_fold h]; exact hx)
  have h2 : (fun (r : Rt) (p : Pl) => (⟨r, bif a.allJ n
      then a.fold M e (fun _ S e' => (p.sv S).get e' r) r.dflt
      else a.fold M e (fun x S e' => bif x.isJ n then (p.sv S).get e' r else r.dflt) r.dflt⟩ : Dyn)) = fun r p => ⟨r, (p.sv S1).get e1 r⟩ := by
    funext r p
    simp only [run_fold h, hx]
    cases a.allJ n <;> rfl
  rw [h2] at h1
  exact h1
theorem fold_lp {m xid ix : Nat} {bd : Ex} {ca : List Ca} {a k : Tr} {e : Env} {X : Type} (K : Ek → SS → Env → X) (d : X) :
    (Tr.lp m xid bd ix ca a k).fold M e K d = Sum.elim (fun r => r) (fun v => k.fold M (setC e ca v) K d) (loopS (fun i (v : caR ca) => a.fold M (setC (Tri.put e ix ⟨.int .i64, (i : Int)⟩) ca v) (endR m xid ca K) (.brk v)) 0 (intD (bd.den M e)).toNat (pkL _ (caV e ca))) := fold_lp0 K d fun hj _ => lbl_run hj
end
end Go.Av
namespace Go.Av
open Go

def Tr.rel : Tr → (Ek → Ek) → Tr
 | .lf x S, f => .lf (f x) S
 | .lt i x t, f => .lt i x (t.rel f)
 | .nd n t, f => .nd n (t.rel f)
 | .it c a b, f => .it c (a.rel f) (b.rel f)
 | .jn n a ps k, f => .jn n (a.rel fun x => bif x.isJ n then x else f x) ps (k.rel f)
 | .lp m xid bd ix ca a k, f => .lp m xid bd ix ca (a.rel fun x => bif x.isJ m || x.isX xid then x else f x) (k.rel f)
 | .lg m xid ca a k, f => .lg m xid ca (a.rel fun x => bif x.isJ m || x.isX xid then x else f x) (k.rel f)
 | .bad n, _ => .bad n
def Tr.okR : Tr → (Ek → Ek) → Prop
 | .lf _ _, _ => True
 | .lt _ _ t, f => t.okR f
 | .nd _ t, f => t.okR f
 | .it _ a b, f => a.okR f ∧ b.okR f
 | .jn n a _ k, f => (∀ x, x.isJ n = false → (f x).isJ n = false) ∧ (a.okR fun x => bif x.isJ n then x else f x) ∧ k.okR f
 | .lp m xid _ _ _ a k, f => (∀ x, x.isJ m = false → x.isX xid = false → (f x).isJ m = false ∧ (f x).isX xid = false) ∧ (a.okR fun x => bif x.isJ m || x.isX xid then x else f x) ∧ k.okR f
 | .lg m xid _ a k, f => (∀ x, x.isJ m = false → x.isX xid = false → (f x).isJ m = false ∧ (f x).isX xid = false) ∧ (a.okR fun x => bif x.isJ m || x.isX xid then x else f x) ∧ k.okR f
 | .bad _, _ => True
section
variable {M : List Md}
theorem endR_rel {X : Type} {m xid : Nat} {ca : List Ca} {K : Ek → SS → Env → X} {f : Ek → Ek} (h : ∀ x, x.isJ m = false → x.isX xid = false → (f x).isJ m = false ∧ (f x).isX xid = false) (x : Ek) (S : SS) (e : Env) :
    endR m xid ca K (bif x.isJ m || x.isX xid then x else f x) S e = endR m xid ca (fun x S e => K (f x) S e) x S e := by
  cases hx : x.isJ m with
  | true => rw [Bool.true_or, cond_true, endR_J hx, endR_J hx]
  | false =>
    cases hy : x.isX xid with
    | true => rw [Bool.false_or, cond_true, endR_X hx hy, endR_X hx hy]
    | false =>
      obtain ⟨h1, h2⟩ := h x hx hy
      rw [Bool.false_or, cond_false, endR_R hx hy, endR_R h1 h2]
theorem lbl_congr : ∀ {t : Tr} {f g : Ek → Bool}, (∀ x, f x = g x) → t.lbl f = t.lbl g := fun {t f g} h => by
 have : f = g := funext h
 rw [this]
theorem lbl_rel : ∀ {t : Tr} {f : Ek → Ek} {g : Ek → Bool}, t.okR f → (t.rel f).lbl g = t.lbl fun x => g (f x)
 | .lf _ _, _, _, _ => rfl
 | .lt _ _ t, _, _, h => lbl_rel (t := t) h
 | .nd _ t, _, _, h => lbl_rel (t := t) h
 | .it _ a b, f, g, h => by simp only [Tr.rel, Tr.lbl, lbl_rel (t := a) h.1, lbl_rel (t := b) h.2]
 | .jn n a ps k, f, g, h => by
  simp only [Tr.rel, Tr.lbl, lbl_rel (t := a) h.2.1, lbl_rel (t := k) h.2.2]
  congr 1
  refine lbl_congr fun x => ?_
  cases hx : x.isJ n with
  | true => simp [hx]
  | false => simp [h.1 x hx]
 | .lp m xid bd ix ca a k, f, g, h => by
  simp only [Tr.rel, Tr.lbl, lbl_rel (t := a) h.2.1, lbl_rel (t := k) h.2.2]
  congr 1
  refine lbl_congr fun x => ?_
  cases hx : x.isJ m with
  | true => simp [hx]
  | false =>
   cases hy : x.isX xid with
   | true => simp [hy]
   | false => simp [(h.1 x hx hy).1, (h.1 x hx hy).2]
 | .lg m xid ca a k, f, g, h => by
  simp only [Tr.rel, Tr.lbl, lbl_rel (t := a) h.2.1, lbl_rel (t := k) h.2.2]
  congr 1
  refine lbl_congr fun x => ?_
  cases hx : x.isJ m with
  | true => simp [hx]
  | false =>
   cases hy : x.isX xid with
   | true => simp [hy]
   | false => simp [(h.1 x hx hy).1, (h.1 x hx hy).2]
 | .bad _, _, _, _ => rfl
theorem fold_rel : ∀ {t : Tr} {f : Ek → Ek}, t.okR f → ∀ {X : Type} (e : Env) (K : Ek → SS → Env → X) (d : X), (t.rel f).fold M e K d = t.fold M e (fun x S e' => K (f x) S e') d
 | .lf _ _, _, _, _, _, _, _ => rfl
 | .lt _ _ t, _, h, _, _, K, d => fold_rel (t := t) h _ K d
 | .nd _ t, _, h, _, _, K, d => fold_rel (t := t) h _ K d
 | .it c a b, f, h, _, e, K, d => by
  simp only [Tr.rel, Tr.fold, fold_rel (t := a) h.1, fold_rel (t := b) h.2]
 | .jn n a ps k, f, h, _, e, K, d => by
  have hr : run M (a.rel fun x => bif x.isJ n then x else f x) e = (run M a e).map fun l => (bif l.1.isJ n then l.1 else f l.1, l.2) := by
   unfold run
   rw [fold_rel (t := a) h.2.1]
   rw [fold_map a (fun o : Option Leaf => o.map fun l => (bif l.1.isJ n then l.1 else f l.1, l.2))]
   rfl
  show (Tr.jn n (a.rel fun x => bif x.isJ n then x else f x) ps (k.rel f)).fold M e K d = _
  cases hrun : run M a e with
  | none => rw [run_jn_n (by rw [hr, hrun]; rfl), run_jn_n hrun]
  | some l =>
   obtain ⟨x, S1, e1⟩ := l
   have h1 : run M (a.rel fun x => bif x.isJ n then x else f x) e = some (bif x.isJ n then x else f x, S1, e1) := by rw [hr, hrun]; rfl
   cases hx : x.isJ n with
   | true =>
    rw [hx, cond_true] at h1
    rw [run_jn_t h1 hx, run_jn_t hrun hx]
    exact fold_rel (t := k) h.2.2 _ K d
   | false =>
    rw [hx, cond_false] at h1
    rw [run_jn_f h1 (h.1 x hx), run_jn_f hrun hx]
 | .lp m xid bd ix ca a k, f, h, X, e, K, d => by
  show (Tr.lp m xid bd ix ca (a.rel fun x => bif x.isJ m || x.isX xid then x else f x) (k.rel f)).fold M e K d = _
  rw [fold_lp, fold_lp]
  have : (fun (i : Nat) (v : caR ca) => (a.rel fun x => bif x.isJ m || x.isX xid then x else f x).fold M (setC (Tri.put e ix ⟨.int .i64, (i : Int)⟩) ca v) (endR m xid ca K) (.brk v)) = fun (i : Nat) (v : caR ca) => a.fold M (setC (Tri.put e ix ⟨.int .i64, (i : Int)⟩) ca v) (endR m xid ca fun x S e' => K (f x) S e') (.brk v) := by
   funext i v
   rw [fold_rel (t := a) h.2.1]
   simp only [endR_rel h.1]
  rw [this]
  generalize loopS _ _ _ _ = L
  cases L with
  | inl r => rfl
  | inr v => exact fold_rel (t := k) h.2.2 _ K d
 | .lg m xid ca a k, f, h, X, e, K, d => by
  simp only [Tr.rel, Tr.fold]
  have : (fun (v : caR ca) => (a.rel fun x => bif x.isJ m || x.isX xid then x else f x).fold M (setC e ca v) (endR m xid ca K) (.brk v)) = fun (v : caR ca) => a.fold M (setC e ca v) (endR m xid ca fun x S e' => K (f x) S e') (.brk v) := by
   funext v
   rw [fold_rel (t := a) h.2.1]
   simp only [endR_rel h.1]
  rw [this]
  generalize loopW _ _ _ = L
  cases L with
  | inl r => rfl
  | inr v => exact fold_rel (t := k) h.2.2 _ K d
 | .bad _, _, _, _, _, _, _ => rfl
theorem run_rel {t : Tr} {f : Ek → Ek} (h : t.okR f) (e : Env) : run M (t.rel f) e = (run M t e).map fun l => (f l.1, l.2) := by
 unfold run
 rw [fold_rel h, fold_map t (fun o : Option Leaf => o.map fun l => (f l.1, l.2))]
 rfl
theorem safe_rel : ∀ {t : Tr} {f : Ek → Ek}, t.okR f → ∀ {e : Env}, (t.rel f).safe M e ↔ t.safe M e
 | .lf _ _, _, _, _ => Iff.rfl
 | .lt _ _ t, _, h, _ => safe_rel (t := t) h
 | .nd _ t, _, h, _ => by simp only [Tr.rel, Tr.safe, safe_rel (t := t) h]
 | .it c a b, f, h, e => by simp only [Tr.rel, Tr.safe, safe_rel (t := a) h.1, safe_rel (t := b) h.2]
 | .jn n a ps k, f, h, e => by
  have hj : ∀ x, (bif Ek.isJ n x then x else f x).isJ n = x.isJ n := fun x => by
   cases hx : x.isJ n with
   | true => exact hx
   | false => exact h.1 x hx
  simp only [Tr.rel, Tr.safe, safe_rel (t := a) h.2.1, safe_rel (t := k) h.2.2, Tr.allJ, lbl_rel h.2.1, fold_rel h.2.1, hj]
 | .lp m xid bd ix ca a k, f, h, e => by
  simp only [Tr.rel, Tr.safe, safe_rel (t := a) h.2.1, safe_rel (t := k) h.2.2, fold_rel h.2.1, endR_rel h.1]
 | .lg m xid ca a k, f, h, e => by
  simp only [Tr.rel, Tr.safe, safe_rel (t := a) h.2.1, safe_rel (t := k) h.2.2, fold_rel h.2.1, endR_rel h.1]
 | .bad _, _, _, _ => Iff.rfl
end

def Tr.lvl : Tr → Nat
 | .lt _ _ t => t.lvl
 | .nd _ t => t.lvl
 | .it _ a b => Nat.max a.lvl b.lvl
 | .jn n a _ k => Nat.max n (Nat.max a.lvl k.lvl)
 | .lp m _ _ _ _ a k => Nat.max m (Nat.max a.lvl k.lvl)
 | .lg m _ _ a k => Nat.max m (Nat.max a.lvl k.lvl)
 | _ => 0
def markE (n : Nat) : Ek → Ek
 | .nrm => .jm n
 | x => x
def unE (i : Nat) : Ek → Ek
 | .ext m => match Nat.beq m i with
  | true => .nrm
  | false => .ext m
 | x => x
theorem unE_J (i n : Nat) (x : Ek) (h : x.isJ n = false) : (unE i x).isJ n = false := by
 unfold unE
 split
 ·split
  ·rfl
  ·exact h
 ·exact h
theorem unE_X (i n : Nat) (x : Ek) (h : x.isX n = false) : (unE i x).isX n = false := by
 unfold unE
 split
 ·split
  ·rfl
  ·exact h
 ·exact h
theorem markE_J (i n : Nat) (hn : i ≠ n) (x : Ek) (h : x.isJ n = false) : (markE i x).isJ n = false := by
 unfold markE
 split
 ·show Nat.beq i n = false
  rw [beq_nat]; exact decide_eq_false hn
 ·exact h
theorem markE_X (i n : Nat) (x : Ek) (h : x.isX n = false) : (markE i x).isX n = false := by
 unfold markE
 split
 ·rfl
 ·exact h
theorem okR_of : ∀ {t : Tr} {f : Ek → Ek} (N : Nat), t.lvl < N → (∀ n, n < N → ∀ x, x.isJ n = false → (f x).isJ n = false) → (∀ n x, x.isX n = false → (f x).isX n = false) → t.okR f
 | .lf _ _, _, _, _, _, _ => trivial
 | .lt _ _ t, _, N, hl, h1, h2 => okR_of (t := t) N hl h1 h2
 | .nd _ t, _, N, hl, h1, h2 => okR_of (t := t) N hl h1 h2
 | .it _ a b, f, N, hl, h1, h2 => by
  have hl : Nat.max a.lvl b.lvl < N := hl
  have g1 : a.lvl ≤ Nat.max a.lvl b.lvl := Nat.le_max_left _ _
  have g2 : b.lvl ≤ Nat.max a.lvl b.lvl := Nat.le_max_right _ _
  exact ⟨okR_of (t := a) N (by omega) h1 h2, okR_of (t := b) N (by omega) h1 h2⟩
 | .jn n a _ k, f, N, hl, h1, h2 => by
  have hl : Nat.max n (Nat.max a.lvl k.lvl) < N := hl
  have g0 : n ≤ Nat.max n (Nat.max a.lvl k.lvl) := Nat.le_max_left _ _
  have g3 : Nat.max a.lvl k.lvl ≤ Nat.max n (Nat.max a.lvl k.lvl) := Nat.le_max_right _ _
  have g1 : a.lvl ≤ Nat.max a.lvl k.lvl := Nat.le_max_left _ _
  have g2 : k.lvl ≤ Nat.max a.lvl k.lvl := Nat.le_max_right _ _
  refine ⟨h1 n (by omega), okR_of (t := a) N (by omega) (fun p hp x hx => ?_) (fun p x hx => ?_), okR_of (t := k) N (by omega) h1 h2⟩
  ·cases x.isJ n with
   | true => exact hx
   | false => exact h1 p hp x hx
  ·cases x.isJ n with
   | true => exact hx
   | false => exact h2 p x hx
 | .lp m xid _ _ _ a k, f, N, hl, h1, h2 => by
  have hl : Nat.max m (Nat.max a.lvl k.lvl) < N := hl
  have g0 : m ≤ Nat.max m (Nat.max a.lvl k.lvl) := Nat.le_max_left _ _
  have g3 : Nat.max a.lvl k.lvl ≤ Nat.max m (Nat.max a.lvl k.lvl) := Nat.le_max_right _ _
  have g1 : a.lvl ≤ Nat.max a.lvl k.lvl := Nat.le_max_left _ _
  have g2 : k.lvl ≤ Nat.max a.lvl k.lvl := Nat.le_max_right _ _
  refine ⟨fun x hx hy => ⟨h1 m (by omega) x hx, h2 xid x hy⟩, okR_of (t := a) N (by omega) (fun p hp x hx => ?_) (fun p x hx => ?_), okR_of (t := k) N (by omega) h1 h2⟩
  ·cases x.isJ m || x.isX xid with
   | true => exact hx
   | false => exact h1 p hp x hx
  ·cases x.isJ m || x.isX xid with
   | true => exact hx
   | false => exact h2 p x hx
 | .lg m xid _ a k, f, N, hl, h1, h2 => by
  have hl : Nat.max m (Nat.max a.lvl k.lvl) < N := hl
  have g0 : m ≤ Nat.max m (Nat.max a.lvl k.lvl) := Nat.le_max_left _ _
  have g3 : Nat.max a.lvl k.lvl ≤ Nat.max m (Nat.max a.lvl k.lvl) := Nat.le_max_right _ _
  have g1 : a.lvl ≤ Nat.max a.lvl k.lvl := Nat.le_max_left _ _
  have g2 : k.lvl ≤ Nat.max a.lvl k.lvl := Nat.le_max_right _ _
  refine ⟨fun x hx hy => ⟨h1 m (by omega) x hx, h2 xid x hy⟩, okR_of (t := a) N (by omega) (fun p hp x hx => ?_) (fun p x hx => ?_), okR_of (t := k) N (by omega) h1 h2⟩
  ·cases x.isJ m || x.isX xid with
   | true => exact hx
   | false => exact h1 p hp x hx
  ·cases x.isJ m || x.isX xid with
   | true => exact hx
   | false => exact h2 p x hx
 | .bad _, _, _, _, _, _ => trivial
theorem okR_un (t : Tr) (i : Nat) : t.okR (unE i) := okR_of (t.lvl + 1) (Nat.lt_succ_self _) (fun n _ x => unE_J i n x) (fun n x => unE_X i n x)
theorem okR_mark {t : Tr} {n : Nat} (h : t.lvl < n) : t.okR (markE n) := okR_of n h (fun m hm x => markE_J n m (by omega) x) (fun m x => markE_X n m x)

def okO (o : Option (Ek → Bool)) (x : Ek) : Bool :=
 match o with
 | none => true
 | some f => f x
def Tr.graft (f : SS → Tr) : Tr → Option (Ek → Bool) → Tr
 | .lf .nrm S, none => f S
 | .lf .nrm S, some o => match (f S).lbl o with
  | true => f S
  | false => .bad 9
 | .lf x S, _ => .lf x S
 | .lt i x t, o => .lt i x (t.graft f o)
 | .nd n t, o => .nd n (t.graft f o)
 | .it c a b, o => .it c (a.graft f o) (b.graft f o)
 | .jn n a ps k, o => .jn n (a.graft f (some fun x => !(x.isJ n) && okO o x)) ps (k.graft f o)
 | .lp m xid bd ix ca a k, o => .lp m xid bd ix ca (a.graft f (some fun x => !(x.isJ m) && (!(x.isX xid) && okO o x))) (k.graft f o)
 | .lg m xid ca a k, o => .lg m xid ca (a.graft f (some fun x => !(x.isJ m) && (!(x.isX xid) && okO o x))) (k.graft f o)
 | .bad n, _ => .bad n
end Go.Av
namespace Go.Av
open Go

theorem loopS_inv {R A : Type} {b c : Nat → A → Step R A} (I : Nat → A → Prop) (n : Nat) (h : ∀ i v, i < n → I i v → c i v = b i v ∧ ∀ v', b i v = .nxt v' → I (i + 1) v') : ∀ (m k : Nat) (a : A), k + m = n → I k a → loopS c k m a = loopS b k m a
 | 0, _, _, _, _ => rfl
 | m + 1, k, a, hn, hi => by
  obtain ⟨h1, h2⟩ := h k a (by omega) hi
  simp only [loopS, h1]
  cases hb : b k a with
  | ret r => rfl
  | brk a => rfl
  | nxt v => exact loopS_inv I n h m (k + 1) v (by omega) (h2 v hb)
theorem loopW_inv {R A : Type} {b c : A → Step R A} (I : A → Prop) (h : ∀ v, I v → c v = b v ∧ ∀ v', b v = .nxt v' → I v') : ∀ (m : Nat) (a : A), I a → loopW c m a = loopW b m a ∧ (endsW c m a ↔ endsW b m a)
 | 0, _, _ => ⟨rfl, Iff.rfl⟩
 | m + 1, a, hi => by
  obtain ⟨h1, h2⟩ := h a hi
  simp only [loopW, endsW, h1]
  cases hb : b a with
  | ret r => exact ⟨rfl, Iff.rfl⟩
  | brk a => exact ⟨rfl, Iff.rfl⟩
  | nxt v => exact loopW_inv I h m v (h2 v hb)
def gft (M : List Md) (f : SS → Tr) (o : Option Leaf) : Option Leaf :=
 match o with
 | some (.nrm, S, e) => run M (f S) e
 | o => o
section
variable {M : List Md} {f : SS → Tr}
theorem gft_ne {x : Ek} {S : SS} {e : Env} (h : x ≠ .nrm) : gft M f (some (x, S, e)) = some (x, S, e) := by
 unfold gft
 split
 ·rename_i hx; cases hx; exact absurd rfl h
 ·rfl
theorem unit_rnd (m xid : Nat) (ca : List Ca) (a : Tr) (e : Env) (v : caR ca) : a.fold M e (endR m xid ca fun _ _ _ => ()) (.brk v) = stepO (fun _ => ()) (rnd M m xid ca a e v) := by
 unfold rnd
 split
 ·rename_i x S e' h
  rw [run_fold h, endR_map]
 ·rename_i h
  rw [run_none h]
  rfl
theorem nxt_stepO {R A X : Type} {f : R → X} {s : Step R A} {v : A} (h : stepO f s = .nxt v) : s = .nxt v := by
 cases s <;> simp_all [stepO]
theorem rnd_graft {m xid : Nat} {ca : List Ca} {a a' : Tr} {e : Env} {v : caR ca} (h : run M a' e = gft M f (run M a e)) (hl : ∀ S e', run M a e = some (.nrm, S, e') → ∃ x S1 e1, run M (f S) e' = some (x, S1, e1) ∧ x.isJ m = false ∧ x.isX xid = false) :
    rnd M m xid ca a' e v = stepO (gft M f) (rnd M m xid ca a e v) := by
  unfold rnd
  rw [h]
  cases hr : run M a e with
  | none => rfl
  | some l =>
    obtain ⟨x, S, e'⟩ := l
    cases x with
    | nrm =>
      obtain ⟨x, S1, e1, h1, h2, h3⟩ := hl S e' hr
      simp only [gft, h1]
      rw [endR_R h2 h3, endR_R (x := .nrm) rfl rfl]
      simp only [stepO, gft, h1]
    | ext n =>
      simp only [gft]
      rw [endR_map]
      cases hx : Ek.isX xid (.ext n) with
      | true => rw [endR_X rfl hx, endR_X rfl hx]
      | false => rw [endR_R rfl hx, endR_R rfl hx]; rfl
    | ret =>
      simp only [gft]
      rw [endR_map, endR_R rfl rfl, endR_R rfl rfl]
      rfl
    | jm n =>
      simp only [gft]
      rw [endR_map]
      cases hx : Ek.isJ m (.jm n) with
      | true => rw [endR_J hx, endR_J hx]
      | false => rw [endR_R hx rfl, endR_R hx rfl]; rfl
theorem lbl_mono : ∀ {t : Tr} {p q : Ek → Bool}, t.lbl p = true → (∀ x, p x = true → q x = true) → t.lbl q = true
 | .lf x _, _, _, h, hq => hq x h
 | .lt _ _ t, _, _, h, hq => lbl_mono (t := t) h hq
 | .nd _ t, _, _, h, hq => lbl_mono (t := t) h hq
 | .it _ a b, _, _, h, hq => by
  simp only [Tr.lbl, Bool.and_eq_true] at h ⊢
  exact ⟨lbl_mono h.1 hq, lbl_mono h.2 hq⟩
 | .jn n a _ k, _, _, h, hq => by
  simp only [Tr.lbl, Bool.and_eq_true] at h ⊢
  refine ⟨lbl_mono h.1 fun x hx => ?_, lbl_mono h.2 hq⟩
  simp only [Bool.or_eq_true] at hx ⊢
  exact hx.imp id (hq x)
 | .lp m xid _ _ _ a k, _, _, h, hq => by
  simp only [Tr.lbl, Bool.and_eq_true] at h ⊢
  refine ⟨lbl_mono h.1 fun x hx => ?_, lbl_mono h.2 hq⟩
  simp only [Bool.or_eq_true] at hx ⊢
  exact hx.imp id (Or.imp id (hq x))
 | .lg m xid _ a k, _, _, h, hq => by
  simp only [Tr.lbl, Bool.and_eq_true] at h ⊢
  refine ⟨lbl_mono h.1 fun x hx => ?_, lbl_mono h.2 hq⟩
  simp only [Bool.or_eq_true] at hx ⊢
  exact hx.imp id (Or.imp id (hq x))
 | .bad _, _, _, h, _ => by cases h
theorem graft_ok : ∀ (t : Tr) (o : Option (Ek → Bool)) {e : Env}, (t.graft f o).safe M e →
    t.safe M e ∧ run M (t.graft f o) e = gft M f (run M t e) ∧ ∀ S e', run M t e = some (.nrm, S, e') → (f S).safe M e' ∧ ∀ p, o = some p → (f S).lbl p = true
  | .lf x S, o, e, h => by
    cases x with
    | nrm =>
      cases o with
      | none => exact ⟨trivial, rfl, fun S' e' hr => by cases hr; exact ⟨h, fun _ hp => by cases hp⟩⟩
      | some p =>
        simp only [Tr.graft] at h
        split at h
        · rename_i hl
          have hg : (Tr.lf .nrm S).graft f (some p) = f S := by simp only [Tr.graft, hl]
          rw [hg]
          exact ⟨trivial, rfl, fun S' e' hr => by cases hr; exact ⟨h, fun _ hp => by cases hp; exact hl⟩⟩
        · exact h.elim
    | _ => exact ⟨trivial, rfl, fun S' e' hr => by cases hr⟩
  | .lt i x t, o, _, h => graft_ok t o (e := Tri.put _ i _) h
  | .nd n t, o, e, h => by
    obtain ⟨h1, h2, h3⟩ := graft_ok t o h.2
    exact ⟨⟨h.1, h1⟩, h2, h3⟩
  | .it c a b, o, e, h => by
    have ha := fun hc => graft_ok a o (h.1 hc)
    have hb := fun hc => graft_ok b o (h.2 hc)
    refine ⟨⟨fun hc => (ha hc).1, fun hc => (hb hc).1⟩, ?_⟩
    simp only [run, Tr.graft, Tr.fold]
    cases hc : c.get1 e .bool with
    | true => exact (ha hc).2
    | false => exact (hb hc).2
  | .jn n a ps k, o, e, h => by
    obtain ⟨a1, a2, a3⟩ := graft_ok a _ h.1
    have hs : (Tr.jn n a ps k).safe M e ∧ run M ((Tr.jn n a ps k).graft f o) e = gft M f (run M (Tr.jn n a ps k) e) ∧ ∀ S e', run M (Tr.jn n a ps k) e = some (.nrm, S, e') → (f S).safe M e' ∧ ∀ p, o = some p → (f S).lbl p = true := by
      show _ ∧ run M (.jn n (a.graft f (some fun x => !(x.isJ n) && okO o x)) ps (k.graft f o)) e = _ ∧ _
      cases hr : run M a e with
      | none =>
        rw [hr] at a2
        have a2 : run M _ e = none := a2
        refine ⟨⟨a1, fun hj => by rw [run_none hr] at hj; cases hj⟩, ?_, fun S e' hj => by unfold run at hj; rw [run_jn_n hr] at hj; cases hj⟩
        unfold run
        rw [run_jn_n a2, run_jn_n hr]
        rfl
      | some l =>
        obtain ⟨x, S1, e1⟩ := l
        cases hx : x.isJ n with
        | true =>
          have hne : x ≠ .nrm := fun e => by rw [e] at hx; cases hx
          rw [hr, gft_ne hne] at a2
          have hk := safe_jn_t h a2 hx
          obtain ⟨k1, k2, k3⟩ := graft_ok k o hk
          refine ⟨⟨a1, fun _ => ?_⟩, ?_, fun S e' hj => ?_⟩
          · have : (fun (r : Rt) (p : Pl) => (⟨r, bif a.allJ n
      then a.fold M e (fun _ S e' => (p.sv S).get e' r) r.dflt
      else a.fold M e (fun x S e' => bif x.isJ n then (p.sv S).get e' r else r.dflt) r.dflt⟩ : Dyn)) = fun r p => ⟨r, (p.sv S1).get e1 r⟩ := by
              funext r p
              simp only [run_fold hr, hx]
              cases a.allJ n <;> rfl
            rw [this]
            exact k1
          · unfold run
            rw [run_jn_t a2 hx, run_jn_t hr hx]
            exact k2
          · unfold run at hj
            rw [run_jn_t hr hx] at hj
            exact k3 S e' hj
        | false =>
          have hja : (Tr.jn n a ps k).safe M e := ⟨a1, fun hj => by rw [run_fold hr, hx] at hj; cases hj⟩
          by_cases hne : x = .nrm
          · subst hne
            obtain ⟨f1, f2⟩ := a3 S1 e1 hr
            have f2 := f2 _ rfl
            obtain ⟨y, S2, e2, g1, g2⟩ := lbl_run (M := M) (e := e1) f2
            simp only [Bool.and_eq_true, Bool.not_eq_true'] at g2
            rw [hr] at a2
            have a2 : run M _ e = run M (f S1) e1 := a2
            rw [g1] at a2
            refine ⟨hja, ?_, fun S e' hj => ?_⟩
            · have h1 : run M (Tr.jn n a ps k) e = some (.nrm, S1, e1) := by unfold run; rw [run_jn_f hr hx]
              rw [h1]
              show _ = run M (f S1) e1
              rw [g1]
              unfold run
              rw [run_jn_f a2 g2.1]
            · unfold run at hj
              rw [run_jn_f hr hx] at hj
              cases hj
              refine ⟨f1, fun p hp => ?_⟩
              subst hp
              exact lbl_mono f2 fun x hx => by simp only [Bool.and_eq_true] at hx; exact hx.2
          · rw [hr, gft_ne hne] at a2
            refine ⟨hja, ?_, fun S e' hj => ?_⟩
            · unfold run
              rw [run_jn_f a2 hx, run_jn_f hr hx, gft_ne hne]
            · unfold run at hj
              rw [run_jn_f hr hx] at hj
              cases hj
              exact absurd rfl hne
    exact hs
  | .lp m xid bd ix ca a k, o, e, h => by
    obtain ⟨⟨I, i0, hI⟩, hk⟩ := h
    have key : ∀ (i : Nat) (v : caR ca), i < (intD (bd.den M e)).toNat → I i v → a.safe M (setC (Tri.put e ix ⟨.int .i64, (i : Int)⟩) ca v) ∧
        rnd M m xid ca (a.graft f (some fun x => !(x.isJ m) && (!(x.isX xid) && okO o x))) (setC (Tri.put e ix ⟨.int .i64, (i : Int)⟩) ca v) v = stepO (gft M f) (rnd M m xid ca a (setC (Tri.put e ix ⟨.int .i64, (i : Int)⟩) ca v) v) ∧
        (∀ v', rnd M m xid ca a (setC (Tri.put e ix ⟨.int .i64, (i : Int)⟩) ca v) v = .nxt v' → I (i + 1) v') ∧
        ∀ S e', rnd M m xid ca a (setC (Tri.put e ix ⟨.int .i64, (i : Int)⟩) ca v) v = .ret (some (.nrm, S, e')) → (f S).safe M e' ∧ ∀ p, o = some p → (f S).lbl p = true := by
      intro i v hi hv
      obtain ⟨s1, s2⟩ := hI i v hi hv
      obtain ⟨a1, a2, a3⟩ := graft_ok a _ s1
      have hg := rnd_graft (m := m) (xid := xid) (ca := ca) (v := v) a2 fun S e' hr => by
        obtain ⟨y, S2, e2, g1, g2⟩ := lbl_run (M := M) (e := e') ((a3 S e' hr).2 _ rfl)
        simp only [Bool.and_eq_true, Bool.not_eq_true'] at g2
        exact ⟨y, S2, e2, g1, g2.1, g2.2.1⟩
      refine ⟨a1, hg, fun v' hv' => s2 v' ?_, fun S e' hr => ?_⟩
      · rw [unit_rnd, hg, hv']
        rfl
      · unfold rnd at hr
        cases hra : run M a (setC (Tri.put e ix ⟨.int .i64, (i : Int)⟩) ca v) with
        | none => rw [hra] at hr; cases hr
        | some l =>
          obtain ⟨x, S', e''⟩ := l
          rw [hra] at hr
          simp only at hr
          cases hx : x.isJ m with
          | true => rw [endR_J hx] at hr; cases hr
          | false =>
            cases hy : x.isX xid with
            | true => rw [endR_X hx hy] at hr; cases hr
            | false =>
              rw [endR_R hx hy] at hr
              cases hr
              obtain ⟨f1, f2⟩ := a3 S e' hra
              refine ⟨f1, fun p hp => ?_⟩
              subst hp
              exact lbl_mono (f2 _ rfl) fun x hx => by simp only [Bool.and_eq_true] at hx; exact hx.2.2
    have hU : loopS (fun i (v : caR ca) => (a.graft f (some fun x => !(x.isJ m) && (!(x.isX xid) && okO o x))).fold M (setC (Tri.put e ix ⟨.int .i64, (i : Int)⟩) ca v) (endR m xid ca fun _ _ _ => ()) (.brk v)) 0 (intD (bd.den M e)).toNat (pkL _ (caV e ca)) =
        loopS (fun i (v : caR ca) => a.fold M (setC (Tri.put e ix ⟨.int .i64, (i : Int)⟩) ca v) (endR m xid ca fun _ _ _ => ()) (.brk v)) 0 (intD (bd.den M e)).toNat (pkL _ (caV e ca)) :=
      loopS_inv I _ (fun i v hi hv => by
        obtain ⟨_, g2, g3, _⟩ := key i v hi hv
        refine ⟨?_, fun v' hv' => g3 v' ?_⟩
        · rw [unit_rnd, unit_rnd, g2]
          cases rnd M m xid ca a (setC (Tri.put e ix ⟨.int .i64, (i : Int)⟩) ca v) v <;> rfl
        · rw [unit_rnd] at hv'
          exact nxt_stepO hv') _ 0 _ (by omega) i0
    rw [hU] at hk
    have hL : loopS (fun i (v : caR ca) => (a.graft f (some fun x => !(x.isJ m) && (!(x.isX xid) && okO o x))).fold M (setC (Tri.put e ix ⟨.int .i64, (i : Int)⟩) ca v) (endR m xid ca fun x S e => some (x, S, e)) (.brk v)) 0 (intD (bd.den M e)).toNat (pkL _ (caV e ca)) =
        loopS (fun i (v : caR ca) => stepO (gft M f) (rnd M m xid ca a (setC (Tri.put e ix ⟨.int .i64, (i : Int)⟩) ca v) v)) 0 (intD (bd.den M e)).toNat (pkL _ (caV e ca)) :=
      loopS_inv I _ (fun i v hi hv => by
        obtain ⟨_, g2, g3, _⟩ := key i v hi hv
        refine ⟨?_, fun v' hv' => g3 v' (nxt_stepO hv')⟩
        rw [rnd_fold, g2]) _ 0 _ (by omega) i0
    have hR : ∀ (n i : Nat) (v : caR ca), i + n = (intD (bd.den M e)).toNat → I i v → ∀ S e', loopS (fun i (v : caR ca) => rnd M m xid ca a (setC (Tri.put e ix ⟨.int .i64, (i : Int)⟩) ca v) v) i n v = .inl (some (.nrm, S, e')) → (f S).safe M e' ∧ ∀ p, o = some p → (f S).lbl p = true := by
      intro n
      induction n with
      | zero => intro i v _ _ S e' h; cases h
      | succ n ih =>
        intro i v hin hv S e' h
        obtain ⟨_, _, g3, g4⟩ := key i v (by omega) hv
        simp only [loopS] at h
        cases hr : rnd M m xid ca a (setC (Tri.put e ix ⟨.int .i64, (i : Int)⟩) ca v) v with
        | ret r => rw [hr] at h; cases h; exact g4 S e' hr
        | brk v' => rw [hr] at h; cases h
        | nxt v' => rw [hr] at h; exact ih (i + 1) v' (by omega) (g3 v' hr) S e' h
    have hrun : run M (.lp m xid bd ix ca a k) e = Sum.elim (fun r => r) (fun v => run M k (setC e ca v)) (loopS (fun i (v : caR ca) => rnd M m xid ca a (setC (Tri.put e ix ⟨.int .i64, (i : Int)⟩) ca v) v) 0 (intD (bd.den M e)).toNat (pkL _ (caV e ca))) := by
      unfold run
      rw [fold_lp]
      simp only [rnd_fold]
    have hrun' : run M ((Tr.lp m xid bd ix ca a k).graft f o) e = Sum.elim (fun r => r) (fun v => run M (k.graft f o) (setC e ca v)) (Sum.map (gft M f) id (loopS (fun i (v : caR ca) => rnd M m xid ca a (setC (Tri.put e ix ⟨.int .i64, (i : Int)⟩) ca v) v) 0 (intD (bd.den M e)).toNat (pkL _ (caV e ca)))) := by
      show Tr.fold M (.lp m xid bd ix ca (a.graft f (some fun x => !(x.isJ m) && (!(x.isX xid) && okO o x))) (k.graft f o)) e _ none = _
      rw [fold_lp, hL, loopS_map (gft M f) (fun _ _ => rfl)]
      rfl
    have hk' : ∀ v, loopS (fun i (v : caR ca) => rnd M m xid ca a (setC (Tri.put e ix ⟨.int .i64, (i : Int)⟩) ca v) v) 0 (intD (bd.den M e)).toNat (pkL _ (caV e ca)) = .inr v → (k.graft f o).safe M (setC e ca v) := fun v hv => by
      simp only [unit_rnd] at hk
      rw [loopS_map (fun _ => ()) (fun _ _ => rfl), hv] at hk
      exact hk
    refine ⟨⟨⟨I, i0, fun i v hi hv => ?_⟩, ?_⟩, ?_, fun S e' hr => ?_⟩
    · obtain ⟨g1, _, g3, _⟩ := key i v hi hv
      exact ⟨g1, fun v' hv' => g3 v' (nxt_stepO (by rw [unit_rnd] at hv'; exact hv'))⟩
    · simp only [unit_rnd]
      rw [loopS_map (fun _ => ()) (fun _ _ => rfl)]
      cases hv : loopS (fun i (v : caR ca) => rnd M m xid ca a (setC (Tri.put e ix ⟨.int .i64, (i : Int)⟩) ca v) v) 0 (intD (bd.den M e)).toNat (pkL _ (caV e ca)) with
      | inl r => trivial
      | inr v => exact (graft_ok k o (hk' v hv)).1
    · rw [hrun, hrun']
      cases hv : loopS (fun i (v : caR ca) => rnd M m xid ca a (setC (Tri.put e ix ⟨.int .i64, (i : Int)⟩) ca v) v) 0 (intD (bd.den M e)).toNat (pkL _ (caV e ca)) with
      | inl r => rfl
      | inr v => exact (graft_ok k o (hk' v hv)).2.1
    · rw [hrun] at hr
      cases hv : loopS (fun i (v : caR ca) => rnd M m xid ca a (setC (Tri.put e ix ⟨.int .i64, (i : Int)⟩) ca v) v) 0 (intD (bd.den M e)).toNat (pkL _ (caV e ca)) with
      | inl r =>
        rw [hv] at hr
        have hr : r = some (.nrm, S, e') := hr
        subst hr
        exact hR _ 0 _ (by omega) i0 S e' hv
      | inr v =>
        rw [hv] at hr
        exact (graft_ok k o (hk' v hv)).2.2 S e' hr
  | .lg m xid ca a k, o, e, h => by
    obtain ⟨⟨I, i0, hI⟩, he, hk⟩ := h
    have key : ∀ (v : caR ca), I v → a.safe M (setC e ca v) ∧
        rnd M m xid ca (a.graft f (some fun x => !(x.isJ m) && (!(x.isX xid) && okO o x))) (setC e ca v) v = stepO (gft M f) (rnd M m xid ca a (setC e ca v) v) ∧
        (∀ v', rnd M m xid ca a (setC e ca v) v = .nxt v' → I v') ∧
        ∀ S e', rnd M m xid ca a (setC e ca v) v = .ret (some (.nrm, S, e')) → (f S).safe M e' ∧ ∀ p, o = some p → (f S).lbl p = true := by
      intro v hv
      obtain ⟨s1, s2⟩ := hI v hv
      obtain ⟨a1, a2, a3⟩ := graft_ok a _ s1
      have hg := rnd_graft (m := m) (xid := xid) (ca := ca) (v := v) a2 fun S e' hr => by
        obtain ⟨y, S2, e2, g1, g2⟩ := lbl_run (M := M) (e := e') ((a3 S e' hr).2 _ rfl)
        simp only [Bool.and_eq_true, Bool.not_eq_true'] at g2
        exact ⟨y, S2, e2, g1, g2.1, g2.2.1⟩
      refine ⟨a1, hg, fun v' hv' => s2 v' ?_, fun S e' hr => ?_⟩
      · rw [unit_rnd, hg, hv']
        rfl
      · unfold rnd at hr
        cases hra : run M a (setC e ca v) with
        | none => rw [hra] at hr; cases hr
        | some l =>
          obtain ⟨x, S', e''⟩ := l
          rw [hra] at hr
          simp only at hr
          cases hx : x.isJ m with
          | true => rw [endR_J hx] at hr; cases hr
          | false =>
            cases hy : x.isX xid with
            | true => rw [endR_X hx hy] at hr; cases hr
            | false =>
              rw [endR_R hx hy] at hr
              cases hr
              obtain ⟨f1, f2⟩ := a3 S e' hra
              refine ⟨f1, fun p hp => ?_⟩
              subst hp
              exact lbl_mono (f2 _ rfl) fun x hx => by simp only [Bool.and_eq_true] at hx; exact hx.2.2
    have hU := loopW_inv (b := fun (v : caR ca) => (a.fold M (setC e ca v) (endR m xid ca fun _ _ _ => ()) (.brk v) : Step Unit (caR ca))) (c := fun (v : caR ca) => ((a.graft f (some fun x => !(x.isJ m) && (!(x.isX xid) && okO o x))).fold M (setC e ca v) (endR m xid ca fun _ _ _ => ()) (.brk v) : Step Unit (caR ca))) I (fun v hv => by
        obtain ⟨_, g2, g3, _⟩ := key v hv
        refine ⟨?_, fun v' hv' => g3 v' ?_⟩
        · rw [unit_rnd, unit_rnd, g2]
          cases rnd M m xid ca a (setC e ca v) v <;> rfl
        · rw [unit_rnd] at hv'
          exact nxt_stepO hv') fuelW _ i0
    rw [hU.1] at hk
    have he := hU.2.1 he
    have hL := (loopW_inv (b := fun (v : caR ca) => stepO (gft M f) (rnd M m xid ca a (setC e ca v) v)) (c := fun (v : caR ca) => (a.graft f (some fun x => !(x.isJ m) && (!(x.isX xid) && okO o x))).fold M (setC e ca v) (endR m xid ca fun x S e => some (x, S, e)) (.brk v)) I (fun v hv => by
        obtain ⟨_, g2, g3, _⟩ := key v hv
        refine ⟨?_, fun v' hv' => g3 v' (nxt_stepO hv')⟩
        rw [rnd_fold, g2]) fuelW _ i0).1
    have hR : ∀ (n : Nat) (v : caR ca), I v → ∀ S e', loopW (fun (v : caR ca) => rnd M m xid ca a (setC e ca v) v) n v = .inl (some (.nrm, S, e')) → (f S).safe M e' ∧ ∀ p, o = some p → (f S).lbl p = true := by
      intro n
      induction n with
      | zero => intro v _ S e' h; cases h
      | succ n ih =>
        intro v hv S e' h
        obtain ⟨_, _, g3, g4⟩ := key v hv
        simp only [loopW] at h
        cases hr : rnd M m xid ca a (setC e ca v) v with
        | ret r => rw [hr] at h; cases h; exact g4 S e' hr
        | brk v' => rw [hr] at h; cases h
        | nxt v' => rw [hr] at h; exact ih v' (g3 v' hr) S e' h
    have hrun : run M (.lg m xid ca a k) e = Sum.elim (fun r => r) (fun v => run M k (setC e ca v)) (loopW (fun (v : caR ca) => rnd M m xid ca a (setC e ca v) v) fuelW (pkL _ (caV e ca))) := by
      simp only [run, Tr.fold, rnd_fold]
    have hrun' : run M ((Tr.lg m xid ca a k).graft f o) e = Sum.elim (fun r => r) (fun v => run M (k.graft f o) (setC e ca v)) (Sum.map (gft M f) id (loopW (fun (v : caR ca) => rnd M m xid ca a (setC e ca v) v) fuelW (pkL _ (caV e ca)))) := by
      rw [← loopW_map (gft M f) (c := fun (v : caR ca) => stepO (gft M f) (rnd M m xid ca a (setC e ca v) v)) (fun _ => rfl), ← hL]
      rfl
    have hk' : ∀ v, loopW (fun (v : caR ca) => rnd M m xid ca a (setC e ca v) v) fuelW (pkL _ (caV e ca)) = .inr v → (k.graft f o).safe M (setC e ca v) := fun v hv => by
      simp only [unit_rnd] at hk
      rw [loopW_map (fun _ => ()) (fun _ => rfl), hv] at hk
      exact hk
    refine ⟨⟨⟨I, i0, fun v hv => ?_⟩, he, ?_⟩, ?_, fun S e' hr => ?_⟩
    · obtain ⟨g1, _, g3, _⟩ := key v hv
      exact ⟨g1, fun v' hv' => g3 v' (nxt_stepO (by rw [unit_rnd] at hv'; exact hv'))⟩
    · simp only [unit_rnd]
      rw [loopW_map (fun _ => ()) (fun _ => rfl)]
      cases hv : loopW (fun (v : caR ca) => rnd M m xid ca a (setC e ca v) v) fuelW (pkL _ (caV e ca)) with
      | inl r => trivial
      | inr v => exact (graft_ok k o (hk' v hv)).1
    · rw [hrun, hrun']
      cases hv : loopW (fun (v : caR ca) => rnd M m xid ca a (setC e ca v) v) fuelW (pkL _ (caV e ca)) with
      | inl r => rfl
      | inr v => exact (graft_ok k o (hk' v hv)).2.1
    · rw [hrun] at hr
      cases hv : loopW (fun (v : caR ca) => rnd M m xid ca a (setC e ca v) v) fuelW (pkL _ (caV e ca)) with
      | inl r =>
        rw [hv] at hr
        have hr : r = some (.nrm, S, e') := hr
        subst hr
        exact hR _ _ i0 S e' hv
      | inr v =>
        rw [hv] at hr
        exact (graft_ok k o (hk' v hv)).2.2 S e' hr
  | .bad _, _, _, h => h.elim
end
end Go.Av
namespace Go.Av
open Go

theorem tabT_get (G : Glob) (e : Env) (l : Tri SV) : ∀ (n i j : Nat), (tabT G e l i n)[j]? = if j < n then some (match l.get (i + j) with | some x => x.den G e | none => .top) else none
 | 0, _, _ => by simp [tabT]
 | n + 1, i, 0 => by simp only [tabT, List.getElem?_cons_zero, Nat.add_zero, Nat.zero_lt_succ, if_true]; rfl
 | n + 1, i, j + 1 => by
  simp only [tabT, List.getElem?_cons_succ, tabT_get G e l n (i + 1) j]
  rw [show i + 1 + j = i + (j + 1) by omega]
  simp
theorem tabT_len (G : Glob) (e : Env) (l : Tri SV) : ∀ (n i : Nat), (tabT G e l i n).length = n
 | 0, _ => rfl
 | n + 1, i => by simp [tabT, tabT_len G e l n (i + 1)]
theorem den_slot (G : Glob) (N B : Nat) (e : Env) (S : SS) (j : Nat) : (S.den G N B e).slots[j]? = if j < N then some ((S.at j).den G e) else none := by
 simp only [SS.den, tabT_get, Nat.zero_add]
 by_cases h : j < N
 ·simp only [h, if_true, Option.some.injEq]
  unfold SS.at
  cases S.l.get j <;> rfl
 ·simp [h]

def sameV : SV → SV → Bool
 | .va r i, .va q j => Nat.beq i j && eqR r q
 | .fd c i k r, .fd d j m q => (Nat.beq i j && Nat.beq k m) && (decide (c = d) && eqR r q)
 | _, _ => false
theorem sameV_eq {x y : SV} (h : sameV x y = true) : x = y := by
 unfold sameV at h
 split at h
 ·simp only [Bool.and_eq_true] at h
  rw [Nat.eq_of_beq_eq_true h.1, eqR_eq h.2]
 ·simp only [Bool.and_eq_true, decide_eq_true_eq] at h
  rw [Nat.eq_of_beq_eq_true h.1.1, Nat.eq_of_beq_eq_true h.1.2, h.2.1, eqR_eq h.2.2]
 ·cases h
def knownB (g : SV) : List Fc → Option Bool
 | [] => none
 | .bo h b :: r => match sameV h g with
  | true => some b
  | false => knownB g r
 | _ :: r => knownB g r
theorem knownB_ok {e : Env} {g : SV} {b : Bool} : ∀ {l : List Fc}, knownB g l = some b → (∀ c ∈ l, c.ok e) → g.get1 e .bool = b
 | .bo h b' :: r, hk, hc => by
  simp only [knownB] at hk
  split at hk
  ·rename_i hs
   cases hk
   rw [← sameV_eq hs]
   exact hc (.bo h b) (by simp)
  ·exact knownB_ok hk fun c hm => hc c (by simp [hm])
 | .d1 _ _ _ :: r, hk, hc => knownB_ok (l := r) hk fun c hm => hc c (by simp [hm])
 | .d2 _ _ _ _ :: r, hk, hc => knownB_ok (l := r) hk fun c hm => hc c (by simp [hm])
 | .rg _ _ :: r, hk, hc => knownB_ok (l := r) hk fun c hm => hc c (by simp [hm])
def SV.res (l : List Fc) : SV → SV
 | .gd g b v => match knownB g l with
  | some c => match decide (c = b) with
   | true => v.res l
   | false => .tp []
  | none => .gd g b (v.res l)
 | .gp g id off => match knownB g l, id with
  | some true, some id => .px id off
  | some false, _ => .cs (.pointer none)
  | _, _ => .gp g id off
 | x => x
theorem res_gd {l : List Fc} {g v : SV} {b : Bool} : (SV.gd g b v).res l = match knownB g l with
    | some c => match decide (c = b) with
      | true => v.res l
      | false => .tp []
    | none => .gd g b (v.res l) := by rw [SV.res]
theorem res_gp {l : List Fc} {g : SV} {id : Option Nat} {off : Nat} : (SV.gp g id off).res l = match knownB g l, id with
    | some true, some id => .px id off
    | some false, _ => .cs (.pointer none)
    | _, _ => .gp g id off := by
  cases hk : knownB g l with
  | none => simp only [SV.res, hk]
  | some b => cases b <;> cases id <;> simp only [SV.res, hk]
theorem res_den {G : Glob} {e : Env} {l : List Fc} (hc : ∀ c ∈ l, c.ok e) : ∀ {x : SV}, (x.res l).den G e = x.den G e
 | .gd g b v => by
  have ih := res_den (G := G) hc (x := v)
  rw [res_gd]
  split
  ·rename_i c hk
   have := knownB_ok hk hc
   split
   ·rename_i hd
    have hd := of_decide_eq_true hd
    subst hd
    rw [ih]
    simp only [SV.den, this]
    cases c <;> rfl
   ·rename_i hd
    have hd := of_decide_eq_false hd
    simp only [SV.den, this]
    cases c <;> cases b <;> first | rfl | exact absurd rfl hd
  ·simp only [SV.den, ih]
 | .va _ _ => rfl
 | .fd _ _ _ _ => rfl
 | .cs _ => rfl
 | .ip _ _ _ => rfl
 | .ag _ => rfl
 | .tp _ => rfl
 | .px _ _ => rfl
 | .pe _ _ _ => rfl
 | .sl _ => rfl
 | .fn _ _ _ => rfl
 | .rf _ => rfl
 | .gl _ _ => rfl
 | .pv _ _ _ _ => rfl
 | .bs _ _ => rfl
 | .gp g id off => by
  rw [res_gp]
  cases hk : knownB g l with
  | none => rfl
  | some c =>
   have := knownB_ok hk hc
   cases c with
   | true => cases id with
    | none => rfl
    | some id => simp only [SV.den, this]
   | false => simp only [SV.den, this]
 | .top => rfl
theorem res_lt {l : List Fc} {k : Nat} : ∀ {x : SV}, x.lt k = true → (x.res l).lt k = true
 | .gd g b v, h => by
  simp only [SV.lt, Bool.and_eq_true] at h
  rw [res_gd]
  split
  ·split
   ·exact res_lt h.2
   ·rfl
  ·simp only [SV.lt, h.1, res_lt h.2, Bool.and_self]
 | .va _ _, h => h
 | .fd _ _ _ _, h => h
 | .cs _, h => h
 | .ip _ _ _, h => h
 | .ag _, h => h
 | .tp _, h => h
 | .px _ _, h => h
 | .pe _ _ _, h => h
 | .sl _, h => h
 | .fn _ _ _, h => h
 | .rf _, h => h
 | .gl _ _, h => h
 | .pv _ _ _ _, h => h
 | .bs _ _, h => h
 | .gp g id off, h => by
  rw [res_gp]
  cases knownB g l with
  | none => exact h
  | some c => cases c with
   | true => cases id with
    | none => exact h
    | some id => rfl
   | false => rfl
 | .top, h => h
def SS.opv (N : Nat) (S : SS) : Operand → SV
 | .tmp t => match Nat.blt t N with
  | true => (S.at t).res S.g
  | false => .top
 | .const v => match v.oneCell' with
  | true => .cs v
  | false => .top
 | .global g => .gl g 0
 | .func f => .fn (.func f) [] []
section
variable {G : Glob} {N B : Nat} {e : Env} {S : SS}
theorem opv_den (hf : ∀ c ∈ S.g, c.ok e) (x : Operand) : aval G (S.den G N B e) x = (S.opv N x).den G e := by
 cases x with
 | tmp t =>
  simp only [aval, SS.opv, List.getD_eq_getElem?_getD, den_slot]
  cases h : Nat.blt t N with
  | true =>
   have : t < N := blt_lt h
   simp [this, res_den hf]
  | false =>
   have : ¬ t < N := fun h' => by rw [lt_blt h'] at h; cases h
   simp [this, SV.den]
 | const v =>
  simp only [aval, SS.opv]
  cases v.oneCell' <;> simp [SV.den]
 | global g =>
  simp only [aval, SS.opv, SV.den]
  cases G g with
  | none => rfl
  | some l => simp
 | func f => simp [aval, SS.opv, SV.den, SV.denL]
def SS.put (S : SS) (dst : Option Nat) (v : SV) : SS :=
 match dst with
 | some d => { S with l := S.l.put d v }
 | none => S
theorem tabT_put (d : Nat) (v : SV) (l : Tri SV) : tabT G e (l.put d v) 0 N = (tabT G e l 0 N).set d (v.den G e) := by
 apply List.ext_getElem?
 intro j
 rw [tabT_get, List.getElem?_set, tabT_get, tabT_len, Nat.zero_add, Tri.get_put]
 by_cases hd : d = j
 ·subst hd
  by_cases hj : d < N <;> simp [hj]
 ·simp [hd]
theorem den_put (dst : Option Nat) (v : SV) : (S.put dst v).den G N B e = (S.den G N B e).put dst (v.den G e) := by
 cases dst with
 | none => rfl
 | some d => simp only [SS.put, SS.den, St.put, tabT_put]
theorem denH_get : ∀ (h : List (Nat × SO)) (id : Nat), hget (denH G e h) id = (getH h id).map (SO.den G e)
 | [], _ => rfl
 | (i, o) :: r, id => by
  simp only [denH, hget, getH, beq_nat]
  by_cases h : i = id
  ·simp [h]
  ·simp only [h, if_false, decide_false]
   exact denH_get r id
theorem denH_set : ∀ (h : List (Nat × SO)) (id : Nat) (o : SO), denH G e (setH h id o) = hset (denH G e h) id (o.den G e)
 | [], _, _ => rfl
 | (i, p) :: r, id, o => by
  simp only [setH, denH, hset, beq_nat]
  by_cases h : i = id
  ·simp [h, denH]
  ·simp only [h, decide_false, if_false, denH, denH_set r id o]
end

def SO.lt (k : Nat) : SO → Bool
 | .bx _ l => SV.ltL k l
 | .rw _ _ x => x.lt k
 | .it x p => x.lt k && p.lt k
def ltH (k : Nat) : List (Nat × SO) → Bool
 | [] => true
 | (_, o) :: r => o.lt k && ltH k r
def Fc.lt (k : Nat) : Fc → Bool
 | .d1 i _ x => Nat.blt i k && x.lt k
 | .d2 i _ x y => Nat.blt i k && (x.lt k && y.lt k)
 | .rg i b => Nat.blt i k && b.lt k
 | .bo g _ => g.lt k
def ltG (k : Nat) : List Fc → Bool
 | [] => true
 | c :: r => c.lt k && ltG k r
structure SS.Bd (S : SS) : Prop where
 l : ∀ i x, S.l.get i = some x → x.lt S.k = true
 h : ltH S.k S.h = true
 g : ltG S.k S.g = true
mutual
theorem lt_mono {k m : Nat} (h : k ≤ m) : ∀ {x : SV}, x.lt k = true → x.lt m = true := fun {x} hx => by
 cases x with
 | va r i => exact lt_blt (Nat.lt_of_lt_of_le (blt_lt hx) h)
 | fd c i j r => exact lt_blt (Nat.lt_of_lt_of_le (blt_lt (i := i) hx) h)
 | ip c i j => exact lt_blt (Nat.lt_of_lt_of_le (blt_lt (i := i) hx) h)
 | ag l => exact ltL_mono (l := l) h hx
 | tp l => exact ltL_mono (l := l) h hx
 | pe id x off => exact lt_mono (x := x) h hx
 | pv id off x n => exact lt_mono (x := x) h hx
 | gp g id off => exact lt_mono (x := g) h hx
 | fn f a b =>
  simp only [SV.lt, Bool.and_eq_true] at hx ⊢
  exact ⟨ltL_mono h hx.1, ltL_mono h hx.2⟩
 | gd g b x =>
  simp only [SV.lt, Bool.and_eq_true] at hx ⊢
  exact ⟨lt_mono h hx.1, lt_mono h hx.2⟩
 | _ => rfl
theorem ltL_mono {k m : Nat} (h : k ≤ m) : ∀ {l : List SV}, SV.ltL k l = true → SV.ltL m l = true := fun {l} hl => by
 match l with
 | [] => rfl
 | x :: r =>
  simp only [SV.ltL, Bool.and_eq_true] at hl ⊢
  exact ⟨lt_mono h hl.1, ltL_mono h hl.2⟩
end
theorem ltH_mono {k m : Nat} (h : k ≤ m) : ∀ {l : List (Nat × SO)}, ltH k l = true → ltH m l = true
 | [], _ => rfl
 | (_, o) :: r, hl => by
  simp only [ltH, Bool.and_eq_true] at hl ⊢
  refine ⟨?_, ltH_mono h hl.2⟩
  cases o with
  | bx t l => exact ltL_mono h (l := l) hl.1
  | rw t c x => exact lt_mono h (x := x) hl.1
  | it x p =>
   have h1 := hl.1
   simp only [SO.lt, Bool.and_eq_true] at h1 ⊢
   exact ⟨lt_mono h h1.1, lt_mono h h1.2⟩
theorem ltG_mono {k m : Nat} (h : k ≤ m) : ∀ {l : List Fc}, ltG k l = true → ltG m l = true
 | [], _ => rfl
 | c :: r, hl => by
  simp only [ltG, Bool.and_eq_true] at hl ⊢
  refine ⟨?_, ltG_mono h hl.2⟩
  cases c with
  | d1 i f x =>
   have := hl.1
   simp only [Fc.lt, Bool.and_eq_true] at this ⊢
   exact ⟨lt_blt (Nat.lt_of_lt_of_le (blt_lt this.1) h), lt_mono h this.2⟩
  | d2 i f x y =>
   have := hl.1
   simp only [Fc.lt, Bool.and_eq_true] at this ⊢
   exact ⟨lt_blt (Nat.lt_of_lt_of_le (blt_lt this.1) h), lt_mono h this.2.1, lt_mono h this.2.2⟩
  | rg i b =>
   have := hl.1
   simp only [Fc.lt, Bool.and_eq_true] at this ⊢
   exact ⟨lt_blt (Nat.lt_of_lt_of_le (blt_lt this.1) h), lt_mono h this.2⟩
  | bo g b => exact lt_mono h (x := g) hl.1
section
variable {G : Glob} {N B : Nat} {e e' : Env} {S : SS} {k : Nat}
theorem denH_agr (h : Agr k e e') : ∀ {l : List (Nat × SO)}, ltH k l = true → denH G e' l = denH G e l
 | [], _ => rfl
 | (_, o) :: r, hl => by
  simp only [ltH, Bool.and_eq_true] at hl
  simp only [denH, denH_agr h hl.2]
  congr 2
  cases o with
  | bx t l => simp only [SO.den, denL_agr h (l := l) hl.1]
  | rw t c x => simp only [SO.den, get1_agr h (x := x) hl.1]
  | it x p =>
   have h1 := hl.1
   simp only [SO.lt, Bool.and_eq_true] at h1
   simp only [SO.den, get1_agr h (x := x) h1.1, get1_agr h (x := p) h1.2]
theorem den_keep (h : Agr S.k e e') (hb : S.Bd) : S.den G N B e' = S.den G N B e := by
 simp only [SS.den, St.mk.injEq, and_true, true_and]
 refine ⟨?_, denH_agr h hb.h⟩
 apply List.ext_getElem?
 intro j
 rw [tabT_get, tabT_get]
 by_cases hj : j < N
 ·simp only [hj, if_true, Option.some.injEq]
  cases hg : S.l.get (0 + j) with
  | none => rfl
  | some x => exact den_agr h (hb.l _ x hg)
 ·simp [hj]
theorem fok_keep (h : Agr k e e') : ∀ {l : List Fc}, ltG k l = true → (∀ c ∈ l, c.ok e) → ∀ c ∈ l, c.ok e'
 | [], _, _, _, hc => by cases hc
 | d :: r, hl, hf, c, hc => by
  simp only [ltG, Bool.and_eq_true] at hl
  rcases List.mem_cons.1 hc with rfl | hc
  ·have h0 := hf c (by simp)
   cases c with
   | d1 i f x =>
    have h1 := hl.1
    simp only [Fc.lt, Bool.and_eq_true] at h1
    simp only [Fc.ok] at h0 ⊢
    rw [h i (blt_lt h1.1), get1_agr h h1.2]; exact h0
   | d2 i f x y =>
    have h1 := hl.1
    simp only [Fc.lt, Bool.and_eq_true] at h1
    simp only [Fc.ok] at h0 ⊢
    rw [h i (blt_lt h1.1), get1_agr h h1.2.1, get1_agr h h1.2.2]; exact h0
   | rg i b =>
    have h1 := hl.1
    simp only [Fc.lt, Bool.and_eq_true] at h1
    simp only [Fc.ok] at h0 ⊢
    rw [h i (blt_lt h1.1), dyn_agr h h1.2]; exact h0
   | bo g b =>
    simp only [Fc.ok] at h0 ⊢
    rw [get1_agr h (x := g) hl.1]; exact h0
  ·exact fok_keep h hl.2 (fun c hc => hf c (by simp [hc])) c hc
theorem opv_lt (hb : S.Bd) (x : Operand) : (S.opv N x).lt S.k = true := by
 cases x with
 | tmp t =>
  simp only [SS.opv]
  split
  ·refine res_lt ?_
   unfold SS.at
   split
   ·rename_i x hx; exact hb.l _ x hx
   ·rfl
  ·rfl
 | const v => simp only [SS.opv]; split <;> rfl
 | global g => rfl
 | func f => rfl
end
def Ex.lt (k : Nat) : Ex → Bool
 | .mv _ x => x.lt k
 | .f1 _ x => x.lt k
 | .f2 _ x y => x.lt k && y.lt k
 | .sbL _ x lo hi => x.lt k && (SV.ltL k lo.toList && SV.ltL k hi.toList)
 | .sbS x lo hi => x.lt k && (SV.ltL k lo.toList && SV.ltL k hi.toList)
 | .pk _ g x y => g.lt k && (x.lt k && y.lt k)
 | .sq _ _ l m => SV.ltL k l && SV.ltL k m
 | .ll _ l => SV.ltL k l
 | .up _ l i x => l.lt k && (i.lt k && x.lt k)
 | .nth _ l i => SV.ltL k l && i.lt k
 | .rp _ x => x.lt k
 | .ca _ l => SV.ltL k l
 | .pj _ p _ => Nat.blt p k
section
variable {e e' : Env} {k : Nat}
theorem valL_agr (h : Agr k e e') : ∀ {rs : List Rt} {l : List SV}, SV.ltL k l = true → valL e' rs l = valL e rs l
 | [], _, _ => by simp [valL]
 | _ :: _, [], _ => by simp [valL]
 | r :: rs, x :: xs, hx => by
  simp only [SV.ltL, Bool.and_eq_true] at hx
  simp only [valL, get_agr h hx.1, valL_agr h hx.2]
theorem optI_agr (h : Agr k e e') {o : Option SV} (ho : SV.ltL k o.toList = true) : optI e' o = optI e o := by
 cases o with
 | none => rfl
 | some x =>
  simp only [Option.toList, SV.ltL, Bool.and_true] at ho
  simp only [optI, dyn_agr h ho]
theorem eqTs_agr (h : Agr k e e') : ∀ {rs : List Rt} {l m : List SV}, SV.ltL k l = true → SV.ltL k m = true → eqTs e' rs l m = eqTs e rs l m
 | [r], [x], [y], hl, hm => by
  simp only [SV.ltL, Bool.and_eq_true] at hl hm
  simp only [eqTs, get1_agr h hl.1, get1_agr h hm.1]
 | r :: s :: rs, x :: xs, y :: ys, hl, hm => by
  simp only [SV.ltL, Bool.and_eq_true] at hl hm
  have := eqTs_agr h (rs := s :: rs) hl.2 hm.2
  cases xs <;> cases ys <;> simp only [eqTs, get1_agr h hl.1, get1_agr h hm.1, this]
 | [r], x :: x' :: xs, y :: ys, hl, hm => by
  simp only [SV.ltL, Bool.and_eq_true] at hl hm
  simp only [eqTs, get1_agr h hl.1, get1_agr h hm.1]
 | [r], [x], y :: y' :: ys, hl, hm => by
  simp only [SV.ltL, Bool.and_eq_true] at hl hm
  simp only [eqTs, get1_agr h hl.1, get1_agr h hm.1]
 | [], _, _, _, _ => by simp [eqTs]
 | _ :: _, [], _, _, _ => by simp [eqTs]
 | _ :: _, _ :: _, [], _, _ => by simp [eqTs]
theorem rowsT_agr (h : Agr k e e') {c : TC} : ∀ {l : List SV}, SV.ltL k l = true → rowsT e' c l = rowsT e c l
 | [], _ => rfl
 | x :: r, hl => by
  simp only [SV.ltL, Bool.and_eq_true] at hl
  simp only [rowsT, get_agr h hl.1, rowsT_agr h hl.2]
theorem nthV_agr (h : Agr k e e') {r : Rt} : ∀ {l : List SV} {n : Nat}, SV.ltL k l = true → nthV e' r l n = nthV e r l n
 | [], _, _ => rfl
 | [x], _, hl => by
  simp only [SV.ltL, Bool.and_eq_true] at hl
  simp only [nthV, get1_agr h hl.1]
 | x :: y :: l, n, hl => by
  simp only [SV.ltL, Bool.and_eq_true] at hl
  have := nthV_agr h (l := y :: l) (n := n - 1) (r := r) (by simp only [SV.ltL, Bool.and_eq_true]; exact hl.2)
  simp only [nthV, get1_agr h hl.1, this]
theorem ex_agr (M : List Md) (h : Agr k e e') {x : Ex} (hx : x.lt k = true) : x.den M e' = x.den M e := by
 cases x with
 | mv r x => simp only [Ex.den, get_agr h (x := x) hx]
 | f1 f x => simp only [Ex.den, get1_agr h (x := x) hx]
 | f2 f x y =>
  simp only [Ex.lt, Bool.and_eq_true] at hx
  simp only [Ex.den, get1_agr h hx.1, get1_agr h hx.2]
 | sbL c x lo hi =>
  simp only [Ex.lt, Bool.and_eq_true] at hx
  simp only [Ex.den, get1_agr h hx.1, optI_agr h hx.2.1, optI_agr h hx.2.2]
 | sbS x lo hi =>
  simp only [Ex.lt, Bool.and_eq_true] at hx
  simp only [Ex.den, get1_agr h hx.1, optI_agr h hx.2.1, optI_agr h hx.2.2]
 | pk r g x y =>
  simp only [Ex.lt, Bool.and_eq_true] at hx
  simp only [Ex.den, get1_agr h hx.1, get_agr h hx.2.1, get_agr h hx.2.2]
 | sq n rs l m =>
  simp only [Ex.lt, Bool.and_eq_true] at hx
  simp only [Ex.den, eqTs_agr h hx.1 hx.2]
 | ll c l => simp only [Ex.den, rowsT_agr h (l := l) hx]
 | rp c x => simp only [Ex.den, get1_agr h (x := x) hx]
 | up c l i x =>
  simp only [Ex.lt, Bool.and_eq_true] at hx
  simp only [Ex.den, get1_agr h hx.1, dyn_agr h hx.2.1, get_agr h hx.2.2]
 | nth r l i =>
  simp only [Ex.lt, Bool.and_eq_true] at hx
  simp only [Ex.den, nthV_agr h hx.1, dyn_agr h hx.2]
 | ca j l => simp only [Ex.den, valL_agr h (l := l) hx]
 | pj rs p i => simp only [Ex.den, h p (blt_lt hx)]
end
end Go.Av
namespace Go.Av
open Go

section
variable {P : Program} {G : Glob} {o : Oper} {s : St}
theorem VStep.sub {v v' : AV} (h : VStep P G o s v) (hs : Sub v v') : VStep P G o s v' := fun E a w β ro hr => by
 obtain ⟨c, h1, h2⟩ := h E a w β ro hr
 exact ⟨c, h1, hs _ _ _ _ _ _ h2⟩
def arOk (op : BinOp) (k k' : IntKind) : Bool :=
 match op with
 | .add => decide (k = k')
 | .sub => decide (k = k')
 | .mul => decide (k = k')
 | .quo => decide (k = k')
 | .rem => decide (k = k')
 | .and => decide (k = k')
 | .or => decide (k = k')
 | .xor => decide (k = k')
 | .shl => true
 | .shr => true
 | _ => false
def cmOk : BinOp → Bool
 | .eql => true
 | .neq => true
 | .lss => true
 | .leq => true
 | .gtr => true
 | .geq => true
 | _ => false
theorem V_ar {op : BinOp} {tx ty : TypeId} {x y : Operand} {k k' : IntKind} {a b : Int} (ho : o.op = .binOp op tx x y ty) (hx : aval G s x = .rv (.v (.int k a))) (hy : aval G s y = .rv (.v (.int k' b))) (h : arOk op k k' = true) (hn : arNeed op b) :
    VStep P G o s (.rv (.v (.int k (arI op k a b)))) := by
  cases op <;> simp only [arOk, Bool.false_eq_true, decide_eq_true_eq] at h
  case add => subst h; exact R_bin _ tx ty x y ho hx hy (by simp [binV, arI])
  case sub => subst h; exact R_bin _ tx ty x y ho hx hy (by simp [binV, arI])
  case mul => subst h; exact R_bin _ tx ty x y ho hx hy (by simp [binV, arI])
  case quo => subst h; exact R_bin _ tx ty x y ho hx hy (by have : ¬ b = 0 := hn; simp [binV, arI, this])
  case rem => subst h; exact R_bin _ tx ty x y ho hx hy (by have : ¬ b = 0 := hn; simp [binV, arI, this])
  case and => subst h; exact R_bits tx ty x y ho hx hy fun w => by simp [binOp, Op.intBits, arI, Av.andI]
  case or => subst h; exact R_bits tx ty x y ho hx hy fun w => by simp [binOp, Op.intBits, arI, Av.orI]
  case xor => subst h; exact R_bits tx ty x y ho hx hy fun w => by simp [binOp, Op.intBits, arI, Av.xorI]
  case shl => exact R_bin _ tx ty x y ho hx hy (by have hn : 0 ≤ b := hn; have : ¬ b < 0 := (by omega); simp [binV, arI, this])
  case shr => exact R_bin _ tx ty x y ho hx hy (by have hn : 0 ≤ b := hn; have : ¬ b < 0 := (by omega); simp [binV, arI, this])
theorem V_cm {op : BinOp} {tx ty : TypeId} {x y : Operand} {k : IntKind} {a b : Int} (ho : o.op = .binOp op tx x y ty) (hx : aval G s x = .rv (.v (.int k a))) (hy : aval G s y = .rv (.v (.int k b))) (h : cmOk op = true) :
    VStep P G o s (.rv (.v (.bool (cmI op a b)))) := by
  cases op <;> simp only [cmOk, Bool.false_eq_true] at h
  all_goals exact R_bin _ tx ty x y ho hx hy (by simp [binV, cmpV, cmI])
theorem V_sc {op : BinOp} {tx ty : TypeId} {x y : Operand} {a b : ByteArray} (ho : o.op = .binOp op tx x y ty) (hx : aval G s x = .rv (.v (.string a))) (hy : aval G s y = .rv (.v (.string b))) (h : cmOk op = true) :
    VStep P G o s (.rv (.v (.bool (cmS op a b)))) := by
  cases op <;> simp only [cmOk, Bool.false_eq_true] at h
  all_goals exact R_bin _ tx ty x y ho hx hy (by simp [binV, cmS])
def bnd (G : Glob) (s : St) (o : Option Operand) (z : Option Int) : Prop :=
 match o, z with
 | none, none => True
 | some y, some z => ∃ k, aval G s y = .rv (.v (.int k z))
 | _, _ => False
theorem V_sbL (i : TC) (ls : List (tbl i)) {t : TypeId} {x : Operand} {lo hi : Option Operand} {zl zh : Option Int} (ho : o.op = .slice t x lo hi none) (ht : elemSize P t = some (nT i)) (hx : aval G s x = .rv (.li i ls)) (e1 : bnd G s lo zl) (e2 : bnd G s hi zh)
    (hn : sbNeed ls.length zl zh) : VDet P G o s (.rv (.li i (sliceV ls zl zh))) := by
  cases lo with
  | none =>
    cases zl with
    | some _ => exact e1.elim
    | none =>
    cases hi with
    | none =>
      cases zh with
      | some _ => exact e2.elim
      | none =>
      have := R_sliceT i ls (l := 0) (h := ls.length) ho ht hx (.inl ⟨rfl, rfl⟩) (.inl ⟨rfl, rfl⟩) (Nat.zero_le _) (Nat.le_refl _)
      rw [List.take_length, List.drop_zero] at this
      exact this
    | some y =>
      cases zh with
      | none => exact e2.elim
      | some h =>
      obtain ⟨k, hy⟩ := e2
      have hn : 0 ≤ h ∧ h ≤ (ls.length : Int) := hn
      obtain ⟨n, rfl⟩ : ∃ n : Nat, h = (n : Int) := ⟨h.toNat, by omega⟩
      have := R_sliceT i ls (l := 0) (h := n) ho ht hx (.inl ⟨rfl, rfl⟩) (.inr ⟨y, k, rfl, hy⟩) (Nat.zero_le _) (by omega)
      rw [List.drop_zero] at this
      exact this
  | some y =>
    cases zl with
    | none => exact e1.elim
    | some a =>
    obtain ⟨k, hy⟩ := e1
    cases hi with
    | none =>
      cases zh with
      | some _ => exact e2.elim
      | none =>
      have hn : 0 ≤ a ∧ a ≤ (ls.length : Int) := hn
      obtain ⟨n, rfl⟩ : ∃ n : Nat, a = (n : Int) := ⟨a.toNat, by omega⟩
      have := R_sliceT i ls (l := n) (h := ls.length) ho ht hx (.inr ⟨y, k, rfl, hy⟩) (.inl ⟨rfl, rfl⟩) (by omega) (Nat.le_refl _)
      rw [List.take_length] at this
      exact this
    | some y2 =>
      cases zh with
      | none => exact e2.elim
      | some h =>
      obtain ⟨k2, hy2⟩ := e2
      have hn : 0 ≤ a ∧ a ≤ h ∧ h ≤ (ls.length : Int) := hn
      obtain ⟨n, rfl⟩ : ∃ n : Nat, a = (n : Int) := ⟨a.toNat, by omega⟩
      obtain ⟨m, rfl⟩ : ∃ n : Nat, h = (n : Int) := ⟨h.toNat, by omega⟩
      exact R_sliceT i ls (l := n) (h := m) ho ht hx (.inr ⟨y, k, rfl, hy⟩) (.inr ⟨y2, k2, rfl, hy2⟩) (by omega) (by omega)
theorem V_sbS (b : ByteArray) {t : TypeId} {x : Operand} {lo hi : Option Operand} {zl zh : Option Int} (ho : o.op = .slice t x lo hi none) (ht : P.underlying t = some .string) (hx : aval G s x = .rv (.v (.string b))) (e1 : bnd G s lo zl) (e2 : bnd G s hi zh)
    (hn : sbNeed b.size zl zh) : VStep P G o s (.rv (.v (.string (strV b zl zh)))) := by
  cases lo with
  | none =>
    cases zl with
    | some _ => exact e1.elim
    | none =>
    cases hi with
    | none =>
      cases zh with
      | some _ => exact e2.elim
      | none => exact R_slice_str t x none none ho ht hx (l := 0) (h := b.size) (.inl ⟨rfl, rfl⟩) (.inl ⟨rfl, rfl⟩) (Nat.zero_le _) (Nat.le_refl _)
    | some y =>
      cases zh with
      | none => exact e2.elim
      | some h =>
      obtain ⟨k, hy⟩ := e2
      have hn : 0 ≤ h ∧ h ≤ (b.size : Int) := hn
      obtain ⟨n, rfl⟩ : ∃ n : Nat, h = (n : Int) := ⟨h.toNat, by omega⟩
      exact R_slice_str t x none _ ho ht hx (l := 0) (h := n) (.inl ⟨rfl, rfl⟩) (.inr ⟨y, k, rfl, hy⟩) (Nat.zero_le _) (by omega)
  | some y =>
    cases zl with
    | none => exact e1.elim
    | some a =>
    obtain ⟨k, hy⟩ := e1
    cases hi with
    | none =>
      cases zh with
      | some _ => exact e2.elim
      | none =>
      have hn : 0 ≤ a ∧ a ≤ (b.size : Int) := hn
      obtain ⟨n, rfl⟩ : ∃ n : Nat, a = (n : Int) := ⟨a.toNat, by omega⟩
      exact R_slice_str t x _ none ho ht hx (l := n) (h := b.size) (.inr ⟨y, k, rfl, hy⟩) (.inl ⟨rfl, rfl⟩) (by omega) (Nat.le_refl _)
    | some y2 =>
      cases zh with
      | none => exact e2.elim
      | some h =>
      obtain ⟨k2, hy2⟩ := e2
      have hn : 0 ≤ a ∧ a ≤ h ∧ h ≤ (b.size : Int) := hn
      obtain ⟨n, rfl⟩ : ∃ n : Nat, a = (n : Int) := ⟨a.toNat, by omega⟩
      obtain ⟨m, rfl⟩ : ∃ n : Nat, h = (n : Int) := ⟨h.toNat, by omega⟩
      exact R_slice_str t x _ _ ho ht hx (l := n) (h := m) (.inr ⟨y, k, rfl, hy⟩) (.inr ⟨y2, k2, rfl, hy2⟩) (by omega) (by omega)
end

def rtEq (P : Program) (t : TypeId) : Option Rt :=
 match P.underlying t with
 | some (.int k) => some (.int k)
 | some .bool => some .bool
 | some .string => some .str
 | _ => none
def eqTy (P : Program) : Nat → Nat → List Field → Option (List Rt)
 | 0, _, _ => none
 | _ + 1, _, [] => some []
 | d + 1, k, f :: fs =>
  if f.name = "_" || f.offset != k then none
  else match eqStruct P f.type with
   | some gs => match P.info? f.type with
    | some inf => match eqTy P d 0 gs, eqTy P d (k + inf.size) fs with
     | some a, some b => match Nat.beq a.length inf.size with
      | true => some (a ++ b)
      | false => none
     | _, _ => none
    | none => none
   | none => match rtEq P f.type with
    | some r => match eqTy P d (k + 1) fs with
     | some l => some (r :: l)
     | none => none
    | none => none
def vaT : (r : Rt) → r.den → Value
 | .int k, n => .int k n
 | .bool, b => .bool b
 | .str, x => .string x
 | _, _ => undef
def Rt.cmp : Rt → Bool
 | .int _ => true
 | .bool => true
 | .str => true
 | _ => false
def vaD (d : Dyn) : Value := vaT d.r d.v
def eqDs : List Dyn → List Dyn → Bool
 | d :: ds, c :: cs => eqT d.r d.v (c.as d.r) && eqDs ds cs
 | _, _ => true
theorem rtEq_v {P : Program} {t : TypeId} {r : Rt} (h : rtEq P t = some r) (x y : r.den) : fitT P t (vaT r x) = true ∧ eqV (vaT r x) (vaT r y) = some (eqT r x y) := by
 unfold rtEq at h
 split at h
 ·rename_i k hu; cases h; simp [vaT, fitT, hu, eqV, eqT]
 ·rename_i hu; cases h; simp [vaT, fitT, hu, eqV, eqT]
 ·rename_i hu; cases h; simp [vaT, fitT, hu, eqV, eqT]
 ·cases h
theorem eqDs_app : ∀ {a c : List Dyn} (b d : List Dyn), a.length = c.length → eqDs (a ++ b) (c ++ d) = (eqDs a c && eqDs b d)
 | [], [], _, _, _ => by simp [eqDs]
 | x :: a, y :: c, b, d, h => by
  simp only [List.cons_append, eqDs, eqDs_app (a := a) (c := c) b d (by simpa using h), Bool.and_assoc]
 | [], _ :: _, _, _, h => by cases h
 | _ :: _, [], _, _, h => by cases h
theorem eqTy_deep {P : Program} : ∀ (d k : Nat) (fs : List Field) (rs : List Rt), eqTy P d k fs = some rs → ∀ (as bs : List Dyn), as.map Dyn.r = rs → bs.map Dyn.r = rs → eqDeep P d k fs (as.map vaD) (bs.map vaD) = some (eqDs as bs)
 | 0, _, _, _, h, _, _, _, _ => by cases h
 | d + 1, k, [], rs, h, as, bs, ha, hb => by
  simp only [eqTy, Option.some.injEq] at h
  subst h
  cases map0 ha
  cases map0 hb
  rfl
 | d + 1, k, f :: fs, rs, h, as, bs, ha, hb => by
  simp only [eqTy] at h
  simp only [eqDeep]
  split at h
  ·cases h
  ·rename_i hc
   rw [if_neg hc]
   cases hs : eqStruct P f.type with
   | some gs =>
    rw [hs] at h
    simp only at h ⊢
    cases hi : P.info? f.type with
    | none => rw [hi] at h; cases h
    | some inf =>
     rw [hi] at h
     simp only at h ⊢
     split at h
     ·rename_i u v h1 h2
      split at h
      ·rename_i hl
       simp only [Option.some.injEq] at h
       subst h
       have hl := Nat.eq_of_beq_eq_true hl
       have ta : (as.take inf.size).map Dyn.r = u := by rw [List.map_take, ha, ← hl, List.take_left]
       have da : (as.drop inf.size).map Dyn.r = v := by rw [List.map_drop, ha, ← hl, List.drop_left]
       have tb : (bs.take inf.size).map Dyn.r = u := by rw [List.map_take, hb, ← hl, List.take_left]
       have db : (bs.drop inf.size).map Dyn.r = v := by rw [List.map_drop, hb, ← hl, List.drop_left]
       rw [← List.map_take, ← List.map_take, ← List.map_drop, ← List.map_drop, eqTy_deep d 0 gs u h1 _ _ ta tb, eqTy_deep d _ fs v h2 _ _ da db]
       simp only [Option.some.injEq]
       rw [← eqDs_app _ _ (by have h1 := congrArg List.length ta; have h2 := congrArg List.length tb; simp only [List.length_map] at h1 h2; omega), List.take_append_drop, List.take_append_drop]
      ·cases h
     ·cases h
   | none =>
    rw [hs] at h
    simp only at h ⊢
    split at h
    ·rename_i r hr
     split at h
     ·rename_i l hl
      simp only [Option.some.injEq] at h
      subst h
      obtain ⟨a, as', rfl, ha1, ha2⟩ := map1 ha
      obtain ⟨b, bs', rfl, hb1, hb2⟩ := map1 hb
      obtain ⟨ra, va⟩ := a
      obtain ⟨rb, vb⟩ := b
      simp only at ha1 hb1
      subst ha1
      subst hb1
      obtain ⟨g1, g2⟩ := rtEq_v hr va vb
      simp only [List.map_cons, vaD, g1, g2, if_true, eqDs, as_mk]
      rw [eqTy_deep d _ fs l hl _ _ ha2 hb2]
     ·cases h
    ·cases h
theorem eqTy_cmp {P : Program} : ∀ (d k : Nat) (fs : List Field) (rs : List Rt), eqTy P d k fs = some rs → ∀ r ∈ rs, r.cmp = true
 | 0, _, _, _, h, _, _ => by cases h
 | d + 1, k, [], rs, h, r, hr => by
  simp only [eqTy, Option.some.injEq] at h
  subst h
  cases hr
 | d + 1, k, f :: fs, rs, h, r, hr => by
  simp only [eqTy] at h
  split at h
  ·cases h
  ·cases hs : eqStruct P f.type with
   | some gs =>
    rw [hs] at h
    simp only at h
    cases hi : P.info? f.type with
    | none => rw [hi] at h; cases h
    | some inf =>
     rw [hi] at h
     simp only at h
     split at h
     ·rename_i u v h1 h2
      split at h
      ·simp only [Option.some.injEq] at h
       subst h
       rcases List.mem_append.1 hr with q | q
       ·exact eqTy_cmp d 0 gs u h1 r q
       ·exact eqTy_cmp d _ fs v h2 r q
      ·cases h
     ·cases h
   | none =>
    rw [hs] at h
    simp only at h
    split at h
    ·rename_i r' hr'
     split at h
     ·rename_i l hl
      simp only [Option.some.injEq] at h
      subst h
      rcases List.mem_cons.1 hr with rfl | q
      ·unfold rtEq at hr'
       split at hr' <;> first | (cases hr'; rfl) | cases hr'
      ·exact eqTy_cmp d _ fs l hl r q
     ·cases h
    ·cases h
theorem cmp_rv {r : Rt} (h : r.cmp = true) (x : r.den) : rvT r x = .v (vaT r x) := by
 cases r <;> first | rfl | cases h
theorem isL_avals {G : Glob} {e : Env} : ∀ {rs : List Rt} {l : List SV}, isL rs l = true → (∀ r ∈ rs, r.cmp = true) → avals (SV.denL G e l) = some ((dynL e rs l).map vaD)
 | [], [], _, _ => rfl
 | [], _ :: _, h, _ => by cases h
 | _ :: _, [], h, _ => by cases h
 | r :: rs, x :: xs, h, hc => by
  simp only [isL, Bool.and_eq_true] at h
  have h1 : x.den G e = .rv (rvT r (x.get1 e r)) := is1_eq h.1 (by have := hc r (by simp); cases r <;> first | rfl | cases this)
  simp only [SV.denL, dynL, h1, cmp_rv (hc r (by simp)), avals, isL_avals h.2 fun r hr => hc r (by simp [hr]), List.map_cons, vaD]
theorem eqTs_ds {e : Env} : ∀ {rs : List Rt} {l m : List SV}, isL rs l = true → isL rs m = true → eqTs e rs l m = eqDs (dynL e rs l) (dynL e rs m)
 | [], [], [], _, _ => rfl
 | [], _ :: _, _, h, _ => by cases h
 | [], [], _ :: _, _, h => by cases h
 | _ :: _, [], _, h, _ => by cases h
 | _ :: _, _ :: _, [], _, h => by cases h
 | [r], [x], [y], _, _ => by simp [eqTs, dynL, eqDs, as_mk]
 | [r], x :: x' :: xs, _ :: _, h, _ => by simp [isL] at h
 | [r], [x], y :: y' :: ys, _, h => by simp [isL] at h
 | r :: s :: rs, x :: xs, y :: ys, h, h' => by
  simp only [isL, Bool.and_eq_true] at h h'
  have := eqTs_ds (e := e) (rs := s :: rs) (l := xs) (m := ys) h.2 h'.2
  cases xs with
  | nil => simp [isL] at h
  | cons x' xs =>
   cases ys with
   | nil => simp [isL] at h'
   | cons y' ys =>
    have h3 : eqDs (dynL e (r :: s :: rs) (x :: x' :: xs)) (dynL e (r :: s :: rs) (y :: y' :: ys)) = (eqT r (x.get1 e r) (y.get1 e r) && eqDs (dynL e (s :: rs) (x' :: xs)) (dynL e (s :: rs) (y' :: ys))) := by
     simp only [dynL, eqDs, as_mk]
    rw [h3, ← this]
    simp only [eqTs]
    cases eqT r (x.get1 e r) (y.get1 e r) <;> rfl
section
variable {P : Program} {G : Glob} {o : Oper} {N B : Nat} {e : Env} {S : SS}
theorem V_sq (hf : ∀ c ∈ S.g, c.ok e) {n : Bool} {op : BinOp} (hop : op = bif n then .neq else .eql) {tx ty : TypeId} {x y : Operand} (ho : o.op = .binOp op tx x y ty) {fs : List Field} {rs : List Rt} (h : eqStruct P tx = some fs) (hr : eqTy P 64 0 fs = some rs) {l m : List SV} (hx : S.opv N x = .ag l) (hy : S.opv N y = .ag m)
    (hl : isL rs l = true) (hm : isL rs m = true) : VStep P G o (S.den G N B e) (.rv (.v (.bool (bif n then !eqTs e rs l m else eqTs e rs l m)))) := by
  have hc := eqTy_cmp 64 0 fs rs hr
  have hx' : aval G (S.den G N B e) x = .agg (SV.denL G e l) := by rw [opv_den hf, hx]; rfl
  have hy' : aval G (S.den G N B e) y = .agg (SV.denL G e m) := by rw [opv_den hf, hy]; rfl
  have hb := eqTy_deep 64 0 fs rs hr _ _ (isL_sub G e hl).1 (isL_sub G e hm).1
  rw [← eqTs_ds hl hm] at hb
  cases n with
  | true =>
    subst hop
    exact R_neq_agg tx ty x y ho h hx' hy' (isL_avals hl hc) (isL_avals hm hc) hb
  | false =>
    subst hop
    exact R_eql_agg tx ty x y ho h hx' hy' (isL_avals hl hc) (isL_avals hm hc) hb
end
end Go.Av
namespace Go.Av
open Go

structure Rs where
 xs : List Ex
 ns : List Nd
 v : SV
def SV.rt : SV → Option Rt
 | .va r _ => match r.one with
  | true => some r
  | false => none
 | .fd _ _ _ r => match r.one with
  | true => some r
  | false => none
 | .cs (.int k _) => some (.int k)
 | .cs (.bool _) => some .bool
 | .cs (.string _) => some .str
 | _ => none
theorem eqR_refl (r : Rt) : eqR r r = true := decide_eq_true rfl
theorem rt_is {x : SV} {r : Rt} (h : x.rt = some r) : x.is1 r = true ∧ x.isNil = false := by
 unfold SV.rt at h
 split at h
 ·split at h
  ·rename_i h1; cases h; exact ⟨by simp [SV.is1, eqR_refl, h1], rfl⟩
  ·cases h
 ·split at h
  ·rename_i h1; cases h; exact ⟨by simp [SV.is1, eqR_refl, h1], rfl⟩
  ·cases h
 ·cases h; exact ⟨by simp [SV.is1, eqR_refl], rfl⟩
 ·cases h; exact ⟨by simp [SV.is1, eqR_refl], rfl⟩
 ·cases h; exact ⟨by simp [SV.is1, eqR_refl], rfl⟩
 ·cases h
theorem rt_den {G : Glob} {e : Env} {x : SV} {r : Rt} (h : x.rt = some r) : x.den G e = .rv (rvT r (x.get1 e r)) := is1_nn (rt_is h).1 (rt_is h).2
theorem rt_int {G : Glob} {e : Env} {x : SV} {k : IntKind} (h : x.rt = some (.int k)) : x.den G e = .rv (.v (.int k (x.get1 e (.int k)))) := rt_den h
theorem rt_intD {e : Env} {x : SV} {k : IntKind} (h : x.rt = some (.int k)) : intD (x.dyn e) = x.get1 e (.int k) := by
 obtain ⟨h1, h2⟩ := rt_is h
 unfold SV.get1
 rw [dyn1_eq h2]
 cases x with
 | va q i =>
  simp only [SV.is1, Bool.and_eq_true] at h1
  cases eqR_eq h1.1
  simp only [SV.dyn, as_mk, intD]
 | fd c i j q =>
  simp only [SV.is1, Bool.and_eq_true] at h1
  cases eqR_eq h1.1
  simp only [SV.dyn, as_mk, intD]
 | cs v =>
  cases v with
  | int k' n =>
   cases eqR_eq h1
   simp only [SV.dyn, as_mk, intD]
  | bool b => cases eqR_eq h1
  | string s => cases eqR_eq h1
  | slice a n c => unfold SV.is1 at h1; split at h1 <;> first | cases h1 | simp_all
  | _ => cases h1
 | _ => cases h1

def isLen (f : F1) (x : SV) (n : Nat) : List Fc → Bool
 | [] => false
 | .d1 i g y :: r => match Nat.beq i n && (decide (g = f) && sameV y x) with
  | true => true
  | false => isLen f x n r
 | _ :: r => isLen f x n r
theorem isLen_ok {f : F1} {x : SV} {n : Nat} {e : Env} : ∀ {l : List Fc}, isLen f x n l = true → (∀ c ∈ l, c.ok e) → Env.at e n = ⟨f.c, f.den (x.get1 e f.a)⟩
 | .d1 i g y :: r, h, hc => by
  simp only [isLen] at h
  split at h
  ·rename_i hb
   simp only [Bool.and_eq_true, decide_eq_true_eq] at hb
   have := hc (.d1 i g y) (by simp)
   simp only [Fc.ok] at this
   rw [← Nat.eq_of_beq_eq_true hb.1, this, hb.2.1, sameV_eq hb.2.2]
  ·exact isLen_ok h fun c hm => hc c (by simp [hm])
 | .d2 _ _ _ _ :: r, h, hc => isLen_ok (l := r) h fun c hm => hc c (by simp [hm])
 | .rg _ _ :: r, h, hc => isLen_ok (l := r) h fun c hm => hc c (by simp [hm])
 | .bo _ _ :: r, h, hc => isLen_ok (l := r) h fun c hm => hc c (by simp [hm])
def rgIn (f : F1) (x : SV) (i : Nat) (all : List Fc) : Fc → Bool
 | .rg j (.va (.int .i64) n) => Nat.beq i j && isLen f x n all
 | _ => false
def isIn (f : F1) (x : SV) (i : Nat) (all : List Fc) : List Fc → Bool
 | [] => false
 | c :: r => match rgIn f x i all c with
  | true => true
  | false => isIn f x i all r
theorem isIn_ok {f : F1} {x : SV} {i : Nat} {e : Env} {all : List Fc} {L : Int} (hL : ∀ n, isLen f x n all = true → Env.at e n = ⟨.int .i64, L⟩) : ∀ {l : List Fc}, isIn f x i all l = true → (∀ c ∈ l, c.ok e) → 0 ≤ intD (Env.at e i) ∧ intD (Env.at e i) < L
 | c :: r, h, hc => by
  simp only [isIn] at h
  split at h
  ·rename_i hb
   unfold rgIn at hb
   split at hb
   ·rename_i j n
    simp only [Bool.and_eq_true] at hb
    have h1 := hc (.rg j (.va (.int .i64) n)) (by simp)
    simp only [Fc.ok, SV.dyn, hL n hb.2, as_mk, intD] at h1
    rw [← Nat.eq_of_beq_eq_true hb.1] at h1
    exact h1
   ·cases hb
  ·exact isIn_ok hL h fun c hm => hc c (by simp [hm])
def inN (len j : Nat) : List Fc → Bool
 | .rg i (.cs (.int _ (.ofNat m))) :: r => (Nat.beq i j && Nat.ble m len) || inN len j r
 | _ :: r => inN len j r
 | [] => false
theorem inN_ok {len j : Nat} {e : Env} : ∀ {l : List Fc}, inN len j l = true → (∀ c ∈ l, c.ok e) → 0 ≤ intD (Env.at e j) ∧ intD (Env.at e j) < (len : Int)
 | [], h, _ => by cases h
 | c :: r, h, hc => by
  unfold inN at h
  split at h
  ·rename_i i k m _ heq
   cases heq
   simp only [Bool.or_eq_true, Bool.and_eq_true] at h
   rcases h with ⟨h1, h2⟩ | h
   ·have h3 : 0 ≤ intD (Env.at e i) ∧ intD (Env.at e i) < (m : Int) := hc (.rg i (.cs (.int k (.ofNat m)))) (by simp)
    rw [← Nat.eq_of_beq_eq_true h1]
    have := Nat.le_of_ble_eq_true h2
    omega
   ·exact inN_ok h fun c hm => hc c (by simp [hm])
  ·rename_i r' _ heq
   cases heq
   exact inN_ok h fun c hm => hc c (by simp [hm])
  ·rename_i heq; cases heq
def nthN (g : List Fc) (len : Nat) (i : SV) : List Nd :=
 match i with
 | .va (.int _) j => match inN len j g with
  | true => []
  | false => [.nth len i]
 | _ => [.nth len i]
theorem nthN_ok {M : List Md} {g : List Fc} {len : Nat} {i : SV} {e : Env} (hg : ∀ c ∈ g, c.ok e) (h : ∀ n ∈ nthN g len i, n.ok M e) : 0 ≤ intD (i.dyn e) ∧ intD (i.dyn e) < (len : Int) := by
 unfold nthN at h
 split at h
 ·rename_i k j
  split at h
  ·rename_i hb
   have := inN_ok hb hg
   simp only [SV.dyn]
   by_cases hr : (Env.at e j).r = .int k
   ·rw [as_eq hr]; exact this
   ·have h0 : intD ⟨.int k, (Env.at e j).as (.int k)⟩ = 0 := by
     unfold Dyn.as
     split
     ·rename_i hh _; exact absurd hh hr
     ·rfl
    rw [h0]
    omega
  ·exact h _ (List.mem_singleton.2 rfl)
 ·exact h _ (List.mem_singleton.2 rfl)
def idxN (g : List Fc) (f : F1) (q : F2) (x i : SV) : List Nd :=
 match i with
 | .va (.int _) j => match isIn f x j g g with
  | true => []
  | false => [.f2 0 q x i]
 | _ => [.f2 0 q x i]
theorem idxN_L {M : List Md} {g : List Fc} {c : TC} {k : IntKind} {x i : SV} {e : Env} (hg : ∀ c ∈ g, c.ok e) (hi : i.rt = some (.int k)) (h : ∀ n ∈ idxN g (.lnL c) (.ixL c k) x i, n.ok M e) :
    0 ≤ i.get1 e (.int k) ∧ i.get1 e (.int k) < (List.length (x.get1 e (.li c)) : Int) := by
  unfold idxN at h
  split at h
  · rename_i k' j
    split at h
    · rename_i hb
      have := isIn_ok (f := .lnL c) (fun n hn => isLen_ok hn hg) hb hg
      rw [← rt_intD hi]
      simp only [SV.dyn]
      have hk : k' = k := by simp only [SV.rt, Rt.one] at hi; cases hi; rfl
      subst hk
      by_cases hr : (Env.at e j).r = .int k'
      · rw [as_eq hr]; exact this
      · have h0 : intD ⟨.int k', (Env.at e j).as (.int k')⟩ = 0 := by
          unfold Dyn.as
          split
          · rename_i hh _; exact absurd hh hr
          · rfl
        rw [h0]
        exact ⟨Int.le_refl _, Int.lt_of_le_of_lt this.1 this.2⟩
    · exact h _ (List.mem_singleton.2 rfl)
  · exact h _ (List.mem_singleton.2 rfl)
theorem idxN_S {M : List Md} {g : List Fc} {k : IntKind} {x i : SV} {e : Env} (hg : ∀ c ∈ g, c.ok e) (hi : i.rt = some (.int k)) (h : ∀ n ∈ idxN g .lnS (.ixS k) x i, n.ok M e) :
    0 ≤ i.get1 e (.int k) ∧ i.get1 e (.int k) < (ByteArray.size (x.get1 e .str) : Int) := by
  unfold idxN at h
  split at h
  · rename_i k' j
    split at h
    · rename_i hb
      have := isIn_ok (f := .lnS) (fun n hn => isLen_ok hn hg) hb hg
      rw [← rt_intD hi]
      simp only [SV.dyn]
      have hk : k' = k := by simp only [SV.rt, Rt.one] at hi; cases hi; rfl
      subst hk
      by_cases hr : (Env.at e j).r = .int k'
      · rw [as_eq hr]; exact this
      · have h0 : intD ⟨.int k', (Env.at e j).as (.int k')⟩ = 0 := by
          unfold Dyn.as
          split
          · rename_i hh _; exact absurd hh hr
          · rfl
        rw [h0]
        exact ⟨Int.le_refl _, Int.lt_of_le_of_lt this.1 this.2⟩
    · exact h _ (List.mem_singleton.2 rfl)
  · exact h _ (List.mem_singleton.2 rfl)
end Go.Av
namespace Go.Av
open Go

def okC (h : List (Nat × SO)) : SV → Bool
 | .va _ _ => true
 | .fd _ _ _ _ => true
 | .cs _ => true
 | .ip _ _ _ => true
 | .fn _ _ _ => true
 | .px id _ => match getH h id with
  | some (.bx _ _) => true
  | _ => false
 | .pv id _ _ _ => match getH h id with
  | some (.bx _ _) => true
  | _ => false
 | .gp _ (some id) _ => match getH h id with
  | some (.bx _ _) => true
  | _ => false
 | .sl id => match getH h id with
  | some (.rw _ _ _) => true
  | _ => false
 | .pe id _ _ => match getH h id with
  | some (.rw _ _ _) => true
  | _ => false
 | _ => false
def cellsAt (S : SS) : SV → Option (List SV)
 | .px id off => match getH S.h id with
  | some (.bx _ l) => some (l.drop off)
  | _ => none
 | .ip c i k => some ((fsOf c i 0 (fT c)).drop k)
 | _ => none
def takeT (P : Program) (t : TypeId) (l : List SV) : Option SV :=
 match aggSize P t with
 | some n => match Nat.ble n l.length && Nat.ble 1 n with
  | true => some (.ag (l.take n))
  | false => none
 | none => match scalar P t, l with
  | true, y :: _ => some y
  | _, _ => none
def isPtrS (S : SS) : SV → Bool
 | .px id _ => match getH S.h id with
  | some (.bx _ _) => true
  | _ => false
 | .pv id _ _ _ => match getH S.h id with
  | some (.bx _ _) => true
  | _ => false
 | .ip _ _ _ => true
 | .pe id _ _ => match getH S.h id with
  | some (.rw _ _ _) => true
  | _ => false
 | _ => false
def shiftS (k : Nat) : SV → Option SV
 | .px id off => some (.px id (off + k))
 | .ip c i j => some (.ip c i (j + k))
 | .pe id x off => some (.pe id x (off + k))
 | .pv id off x n => some (.pv id (off + k) x n)
 | _ => none
def sfill (place : Nat → Option (Nat × Nat)) : List SV → List (Nat × SV) → Option (List SV)
 | l, [] => some l
 | l, (i, v) :: rest => match place i with
  | some (off, size) => match Nat.beq v.cells.length size && Nat.ble (off + size) l.length with
   | true => sfill place (splice l off v.cells) rest
   | false => none
  | none => none
section
variable {P : Program} {G : Glob} {o : Oper} {N B : Nat} {e : Env} {S : SS} {M : List Md}
theorem okC_den {h : List (Nat × SO)} {x : SV} (hx : okC h x = true) : cellOkIn (denH G e h) (x.den G e) = true ∧ vcells (x.den G e) = [x.den G e] := by
 cases x with
 | px id off =>
  simp only [okC] at hx
  split at hx
  ·rename_i t l hg
   simp [SV.den, cellOkIn, denH_get, hg, SO.den, vcells]
  ·cases hx
 | pv id off x n =>
  simp only [okC] at hx
  split at hx
  ·rename_i t l hg
   simp [SV.den, cellOkIn, denH_get, hg, SO.den, vcells]
  ·cases hx
 | sl id =>
  simp only [okC] at hx
  split at hx
  ·rename_i t c y hg
   simp [SV.den, cellOkIn, denH_get, hg, SO.den, vcells]
  ·cases hx
 | pe id x off =>
  simp only [okC] at hx
  split at hx
  ·rename_i t c y hg
   simp [SV.den, cellOkIn, denH_get, hg, SO.den, vcells]
  ·cases hx
 | ag l => cases hx
 | tp l => cases hx
 | rf id => cases hx
 | gd g b x => cases hx
 | gl g off => cases hx
 | top => cases hx
 | bs k n => cases hx
 | gp g id off =>
  cases id with
  | none => cases hx
  | some id =>
   simp only [okC] at hx
   split at hx
   ·rename_i t l hg
    simp only [SV.den]
    cases g.get1 e .bool <;> simp [cellOkIn, denH_get, hg, SO.den, vcells]
   ·cases hx
 | _ => exact ⟨rfl, rfl⟩
theorem okCs_den {h : List (Nat × SO)} : ∀ {l : List SV}, l.all (okC h) = true → (SV.denL G e l).all (cellOkIn (denH G e h)) = true
 | [], _ => rfl
 | x :: r, hx => by
  simp only [List.all_cons, Bool.and_eq_true] at hx
  simp only [SV.denL, List.all_cons, (okC_den hx.1).1, okCs_den hx.2, Bool.and_self]
theorem vcells_den {h : List (Nat × SO)} {x : SV} (hx : x.cells.all (okC h) = true) : vcells (x.den G e) = SV.denL G e x.cells := by
 cases x with
 | ag l => rfl
 | _ =>
  simp only [SV.cells, List.all_cons, List.all_nil, Bool.and_true] at hx
  simp only [(okC_den hx).2, SV.cells, SV.denL]
theorem denL_drop (k : Nat) (l : List SV) : SV.denL G e (l.drop k) = (SV.denL G e l).drop k := by rw [denL_map, denL_map, List.map_drop]
theorem denL_len (l : List SV) : (SV.denL G e l).length = l.length := by rw [denL_map, List.length_map]
theorem cellsAt_den {p : SV} {l : List SV} (h : cellsAt S p = some l) : acells (S.den G N B e).heap (p.den G e) = some (SV.denL G e l) := by
 unfold cellsAt at h
 split at h
 ·split at h
  ·rename_i id off t l' hg
   cases h
   simp only [SS.den, SV.den, acells, denH_get, hg, Option.map_some, SO.den]
   rw [denL_map, denL_map, List.map_drop]
  ·cases h
 ·rename_i c i k
  cases h
  simp only [SV.den, acells, Option.some.injEq]
  rw [denL_drop, fs_den, List.map_drop]
 ·cases h
theorem load_den {t : TypeId} {x : Operand} {l : List SV} {v : SV} (ho : o.op = .load t x) (hc : acells (S.den G N B e).heap (aval G (S.den G N B e) x) = some (SV.denL G e l)) (hv : takeT P t l = some v) : VStep P G o (S.den G N B e) (v.den G e) := by
 unfold takeT at hv
 split at hv
 ·rename_i n hn
  split at hv
  ·rename_i hb
   simp only [Bool.and_eq_true] at hb
   cases hv
   have := R_load_agg t x ho hn hc (by rw [denL_len]; exact Nat.le_of_ble_eq_true hb.1) (Nat.le_of_ble_eq_true hb.2)
   simp only [SV.den]
   rw [denL_map] at this
   rw [denL_map, List.map_take]
   exact this
  ·cases hv
 ·split at hv
  ·rename_i y r hs
   cases hv
   exact R_load t x ho hs hc
  ·cases hv
theorem isPtrS_den {p : SV} (h : isPtrS S p = true) : ptrA (S.den G N B e).heap (p.den G e) = true := by
 unfold isPtrS at h
 split at h
 ·split at h
  ·rename_i hg; simp [SS.den, SV.den, ptrA, denH_get, hg, SO.den]
  ·cases h
 ·split at h
  ·rename_i hg; simp [SS.den, SV.den, ptrA, denH_get, hg, SO.den]
  ·cases h
 ·rfl
 ·split at h
  ·rename_i hg; simp [SS.den, SV.den, ptrA, denH_get, hg, SO.den]
  ·cases h
 ·cases h
theorem shiftS_den {k : Nat} {p q : SV} (h : shiftS k p = some q) : shiftP k (p.den G e) = q.den G e := by
 unfold shiftS at h
 split at h
 ·cases h; simp [SV.den, shiftP]
 ·cases h; simp [SV.den, shiftP, List.drop_drop, Nat.add_comm]
 ·cases h; simp [SV.den, shiftP]
 ·cases h; simp only [SV.den, shiftP, AV.ptr.injEq, true_and]; omega
 ·cases h
theorem splice_map {α β : Type} (f : α → β) (l : List α) (off : Nat) (vs : List α) : (splice l off vs).map f = splice (l.map f) off (vs.map f) := by
 simp [splice, List.map_take, List.map_drop]
theorem sfill_den {pl : Nat → Option (Nat × Nat)} {h : List (Nat × SO)} : ∀ {ps : List (Nat × SV)} {l ds : List SV}, (ps.all fun p => p.2.cells.all (okC h)) = true → sfill pl l ps = some ds → afill pl (SV.denL G e l) (ps.map fun p => (p.1, p.2.den G e)) = some (SV.denL G e ds)
 | [], l, ds, _, hf => by
  simp only [sfill, Option.some.injEq] at hf
  subst hf
  rfl
 | (i, v) :: rest, l, ds, ha, hf => by
  simp only [List.all_cons, Bool.and_eq_true] at ha
  simp only [sfill] at hf
  simp only [List.map_cons, afill]
  split at hf
  ·rename_i off size hp
   split at hf
   ·rename_i hb
    simp only [Bool.and_eq_true] at hb
    have h1 := Nat.eq_of_beq_eq_true hb.1
    have h2 := Nat.le_of_ble_eq_true hb.2
    have hv := vcells_den (G := G) (e := e) ha.1
    simp only [hp, hv, denL_len]
    rw [if_pos ⟨h1, h2⟩]
    have := sfill_den ha.2 hf
    rw [denL_map] at this ⊢
    rw [splice_map] at this
    rw [denL_map]
    exact this
   ·cases hf
  ·cases hf

def VOk (P : Program) (G : Glob) (N B : Nat) (M : List Md) (o : Oper) (S : SS) (r : Rs) : Prop :=
 ∀ e, (∀ c ∈ S.g, c.ok e) → (∀ (j : Nat) (x : Ex), r.xs[j]? = some x → Env.at e (S.k + j) = x.den M e) → (∀ n ∈ r.ns, n.ok M e) → VStep P G o (S.den G N B e) (r.v.den G e)
end

def needAr (op : BinOp) (k k' : IntKind) (x y : SV) : List Nd :=
 match op with
 | .add => []
 | .sub => []
 | .mul => []
 | .and => []
 | .or => []
 | .xor => []
 | .quo => match y with
  | .cs (.int _ n) => match decide (n = 0) with
   | false => []
   | true => [.f2 0 (.ar op k k') x y]
  | _ => [.f2 0 (.ar op k k') x y]
 | .rem => match y with
  | .cs (.int _ n) => match decide (n = 0) with
   | false => []
   | true => [.f2 0 (.ar op k k') x y]
  | _ => [.f2 0 (.ar op k k') x y]
 | op => match y with
  | .cs (.int _ n) => match decide (0 ≤ n) with
   | true => []
   | false => [.f2 0 (.ar op k k') x y]
  | _ => [.f2 0 (.ar op k k') x y]
def opBin (P : Program) (S : SS) (op : BinOp) (tx : TypeId) (x y : SV) : Option Rs :=
 match x.rt, y.rt with
 | some (.int k), some (.int k') => match arOk op k k' with
  | true => some ⟨[.f2 (.ar op k k') x y], needAr op k k' x y, .va (.int k) S.k⟩
  | false => match cmOk op && decide (k' = k) with
   | true => some ⟨[.f2 (.cm op k) x y], [], .va .bool S.k⟩
   | false => none
 | some .str, some .str => match cmOk op with
  | true => some ⟨[.f2 (.sc op) x y], [], .va .bool S.k⟩
  | false => match op with
   | .add => some ⟨[.f2 .ct x y], [.f2 0 .ct x y], .va .str S.k⟩
   | _ => none
 | some .bool, some .bool => match op, isBoolT P tx with
  | .eql, true => some ⟨[.f2 (.bq false) x y], [], .va .bool S.k⟩
  | .neq, true => some ⟨[.f2 (.bq true) x y], [], .va .bool S.k⟩
  | _, _ => none
 | _, _ => match x, y with
  | .ag l, .ag m => match eqStruct P tx with
   | some fs => match eqTy P 64 0 fs with
    | some rs => match isL rs l && isL rs m, op with
     | true, .eql => some ⟨[.sq false rs l m], [], .va .bool S.k⟩
     | true, .neq => some ⟨[.sq true rs l m], [], .va .bool S.k⟩
     | _, _ => none
    | none => none
   | none => none
  | p, .cs (.pointer none) => match P.underlying tx, isPtrS S p, op with
   | some (.pointer _), true, .eql => some ⟨[], [], .cs (.bool false)⟩
   | some (.pointer _), true, .neq => some ⟨[], [], .cs (.bool true)⟩
   | _, _, _ => none
  | _, _ => none
section
variable {P : Program} {G : Glob} {o : Oper} {N B : Nat} {e : Env} {S : SS} {M : List Md}
theorem f2_var {e : Env} {f : F2} {x y : SV} {k : Nat} (h : Env.at e k = (Ex.f2 f x y).den M e) : (SV.va f.c k).den G e = .rv (rvT f.c (f.den (x.get1 e f.a) (y.get1 e f.b))) := by
 simp only [SV.den, h, Ex.den, as_mk]
theorem f1_var {e : Env} {f : F1} {x : SV} {k : Nat} (h : Env.at e k = (Ex.f1 f x).den M e) : (SV.va f.c k).den G e = .rv (rvT f.c (f.den (x.get1 e f.a))) := by
 simp only [SV.den, h, Ex.den, as_mk]
theorem V2 {s : St} {f : F2} {x y : SV} {k : Nat} (h : Env.at e k = (Ex.f2 f x y).den M e) (hs : VStep P G o s (.rv (rvT f.c (f.den (x.get1 e f.a) (y.get1 e f.b))))) : VStep P G o s ((SV.va f.c k).den G e) := by
 rw [f2_var h]; exact hs
theorem V1 {s : St} {f : F1} {x : SV} {k : Nat} (h : Env.at e k = (Ex.f1 f x).den M e) (hs : VStep P G o s (.rv (rvT f.c (f.den (x.get1 e f.a))))) : VStep P G o s ((SV.va f.c k).den G e) := by
 rw [f1_var h]; exact hs
theorem needAr_ok {op : BinOp} {k k' : IntKind} {x y : SV} (hy : y.rt = some (.int k')) (h : ∀ n ∈ needAr op k k' x y, n.ok M e) : arNeed op (y.get1 e (.int k')) := by
 have hc : ∀ n k2, y = .cs (.int k2 n) → y.get1 e (.int k') = n := fun n k2 hh => by
  subst hh
  simp only [SV.rt, Option.some.injEq, Rt.int.injEq] at hy
  subst hy
  simp only [SV.get1, SV.dyn1, SV.dyn, as_mk]
 have hs : ∀ op', ((∃ q, op' = q) → Nd.ok M e (.f2 0 (.ar op' k k') x y) → arNeed op' (y.get1 e (.int k'))) := fun op' _ h => h
 cases op <;> try exact trivial
 all_goals
  simp only [needAr] at h
  split at h
  ·rename_i k2 n
   have hn := hc n k2 rfl
   split at h
   ·rename_i hd
    rw [hn]
    simp only [decide_eq_false_iff_not, decide_eq_true_eq] at hd
    exact hd
   ·exact h _ (List.mem_singleton.2 rfl)
  ·exact h _ (List.mem_singleton.2 rfl)
theorem opBin_ok {op : BinOp} {tx ty : TypeId} {x y : Operand} {r : Rs} (ho : o.op = .binOp op tx x y ty) (h : opBin P S op tx (S.opv N x) (S.opv N y) = some r) : VOk P G N B M o S r := fun e hf hx hn => by
 unfold opBin at h
 split at h
 ·rename_i k k' h1 h2
  have hx' : aval G (S.den G N B e) x = _ := (opv_den hf x).trans (rt_int h1)
  have hy' : aval G (S.den G N B e) y = _ := (opv_den hf y).trans (rt_int h2)
  split at h
  ·rename_i ha
   cases h
   exact V2 (f := .ar op k k') (hx 0 _ rfl) (V_ar ho hx' hy' ha (needAr_ok h2 hn))
  ·split at h
   ·rename_i hc
    cases h
    simp only [Bool.and_eq_true, decide_eq_true_eq] at hc
    have hk := hc.2
    subst hk
    exact V2 (f := .cm op k') (hx 0 _ rfl) (V_cm ho hx' hy' hc.1)
   ·cases h
 ·rename_i h1 h2
  have hx' : aval G (S.den G N B e) x = _ := (opv_den hf x).trans (rt_den h1)
  have hy' : aval G (S.den G N B e) y = _ := (opv_den hf y).trans (rt_den h2)
  split at h
  ·rename_i hc
   cases h
   exact V2 (f := .sc op) (hx 0 _ rfl) (V_sc ho hx' hy' hc)
  ·split at h
   ·cases h
    exact V2 (f := .ct) (hx 0 _ rfl) (R_concat tx ty x y ho hx' hy' (hn _ (List.mem_singleton.2 rfl)))
   ·cases h
 ·rename_i h1 h2
  have hx' : aval G (S.den G N B e) x = _ := (opv_den hf x).trans (rt_den h1)
  have hy' : aval G (S.den G N B e) y = _ := (opv_den hf y).trans (rt_den h2)
  split at h
  ·rename_i ht
   cases h
   exact V2 (f := .bq false) (hx 0 _ rfl) (R_eql_bool tx ty x y ho (isBoolT_spec ht) hx' hy')
  ·rename_i ht
   cases h
   exact V2 (f := .bq true) (hx 0 _ rfl) (R_neq_bool tx ty x y ho (isBoolT_spec ht) hx' hy')
  ·cases h
 ·split at h
  ·rename_i l m hl hm
   split at h
   ·rename_i fs hfs
    split at h
    ·rename_i rs hrs
     split at h
     ·rename_i hb
      cases h
      simp only [Bool.and_eq_true] at hb
      have := V_sq (G := G) (n := false) (B := B) (e := e) hf rfl ho hfs hrs hl hm hb.1 hb.2
      have h0 : Env.at e S.k = _ := hx 0 _ rfl
      simp only [SV.den, h0, Ex.den, as_mk, rvT, rv0]
      exact this
     ·rename_i hb
      cases h
      simp only [Bool.and_eq_true] at hb
      have := V_sq (G := G) (n := true) (B := B) (e := e) hf rfl ho hfs hrs hl hm hb.1 hb.2
      have h0 : Env.at e S.k = _ := hx 0 _ rfl
      simp only [SV.den, h0, Ex.den, as_mk, rvT, rv0]
      exact this
     ·cases h
    ·cases h
   ·cases h
  ·rename_i hp
   have key : ∀ E a w β ro, RelAt E G (S.den G N B e) a w β ro → isPtrS S (S.opv N x) = true → ∃ ad, a.eval x = .pointer (some ad) := fun E a w β ro hr hi => by
    obtain ⟨ad, hc, _⟩ := ptrA_rel (isPtrS_den (G := G) (N := N) (B := B) (e := e) hi) (by have := hr.eval x; rw [opv_den hf] at this; exact this)
    exact ⟨ad, hc⟩
   have hyv : ∀ E a w β ro, RelAt E G (S.den G N B e) a w β ro → a.eval y = .pointer none := fun E a w β ro hr => by
    refine hr.evalV ?_
    rw [opv_den hf, hp]
    rfl
   split at h
   ·rename_i t hu hi
    cases h
    exact fun E a w β ro hr => by
     obtain ⟨ad, hc⟩ := key E a w β ro hr hi
     exact ⟨.bool false, by simp [execOp, ho, hc, hyv E a w β ro hr, eqGuard_at_pointer, run_eql_pointer_nil w tx (some ad) (und_ptr hu)], .ofV rfl⟩
   ·rename_i t hu hi
    cases h
    exact fun E a w β ro hr => by
     obtain ⟨ad, hc⟩ := key E a w β ro hr hi
     exact ⟨.bool true, by simp [execOp, ho, hc, hyv E a w β ro hr, eqGuard_at_pointer, run_neq_pointer_nil w tx (some ad) (und_ptr hu)], .ofV rfl⟩
   ·cases h
  ·cases h
end
end Go.Av
