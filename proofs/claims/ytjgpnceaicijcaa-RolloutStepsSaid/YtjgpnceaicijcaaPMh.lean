/- The AV calculus, part H: states that say less; calls of functions by contract. Conditions: none. -/
import Derived.Test.YtjgpnceaicijcaaPMg
namespace Go.Av
open Go

mutual
/-- Every name in it is below n. -/
def belowA (n : Nat) : AV → Bool
  | .rv _ => true
  | .agg cs => belowL n cs
  | .tuple cs => belowL n cs
  | .ptr id _ => decide (id < n)
  | .eptr id _ _ => decide (id < n)
  | .sl id => decide (id < n)
  | .fn _ p q => belowL n p && belowL n q
  | .ref id => decide (id < n)
  | .top => true
def belowL (n : Nat) : List AV → Bool
  | [] => true
  | x :: r => belowA n x && belowL n r
end

theorem belowL_at {n : Nat} : ∀ {cs : List AV}, belowL n cs = true → ∀ {j : Nat} {x : AV}, cs[j]? = some x → belowA n x = true
  | [], _, j, x, h => by simp at h
  | y :: r, hb, j, x, h => by
    simp only [belowL, Bool.and_eq_true] at hb
    cases j with
    | zero => simp at h; subst h; exact hb.1
    | succ j => simp at h; exact belowL_at hb.2 h

theorem ARel.lower {w : World} {ro : Nat → Prop} {σ : Heap} {β : Nat → Value} {N N' : Nat} {x : AV} {c : Value} (h : ARel w ro σ β N x c) (hb : belowA N' x = true) : ARel w ro σ β N' x c := by
  induction h with
  | rv x c hx => exact .rv x c hx
  | agg cs c hs _ ih =>
    simp only [belowA] at hb
    exact .agg cs c hs fun j x hj => ih j x hj (belowL_at hb hj)
  | tuple cs c hs _ ih =>
    simp only [belowA] at hb
    exact .tuple cs c hs fun j x hj => ih j x hj (belowL_at hb hj)
  | ptr id off c hl hp => exact .ptr id off c (by simpa [belowA] using hb) hp
  | eptr id i off c hl hp => exact .eptr id i off c (by simpa [belowA] using hb) hp
  | sl id c hl hp => exact .sl id c (by simpa [belowA] using hb) hp
  | fn f p q c d h1 h2 _ _ ih1 ih2 =>
    simp only [belowA, Bool.and_eq_true] at hb
    exact .fn f p q c d h1 h2 (fun j x hj => ih1 j x hj (belowL_at hb.1 hj)) (fun j x hj => ih2 j x hj (belowL_at hb.2 hj))
  | ref id c hl hp => exact .ref id c (by simpa [belowA] using hb) hp
  | top c => exact .top c

def pickH (σ : Heap) : List Nat → Heap
  | [] => []
  | id :: r => match hget σ id with
    | some o => (id, o) :: pickH σ r
    | none => pickH σ r

theorem pickH_sub (σ : Heap) : ∀ (ids : List Nat) (id : Nat) (o : AObj), hget (pickH σ ids) id = some o → hget σ id = some o
  | [], id, o, h => by simp [pickH, hget] at h
  | k :: r, id, o, h => by
    simp only [pickH] at h
    cases hk : hget σ k with
    | none => rw [hk] at h; exact pickH_sub σ r id o h
    | some p =>
      rw [hk] at h
      simp only [hget] at h
      split at h
      · rename_i he
        subst he
        rw [hk]
        exact h
      · exact pickH_sub σ r id o h

def belowH (n : Nat) : Heap → Bool
  | [] => true
  | (id, .box _ cs) :: r => decide (id < n) && belowL n cs && belowH n r
  | (id, .row _ _ _ _) :: r => decide (id < n) && belowH n r
  | (id, .oth _) :: r => decide (id < n) && belowH n r

theorem belowH_at {n : Nat} : ∀ {σ : Heap}, belowH n σ = true → ∀ {id : Nat} {o : AObj}, hget σ id = some o → id < n ∧ ∀ t cs, o = .box t cs → belowL n cs = true
  | [], _, id, o, h => by simp [hget] at h
  | (k, .box t cs) :: r, hb, id, o, h => by
    simp only [belowH, Bool.and_eq_true, decide_eq_true_eq] at hb
    simp only [hget] at h
    split at h
    · rename_i he
      subst he
      simp only [Option.some.injEq] at h
      subst h
      exact ⟨hb.1.1, fun t' cs' he => by cases he; exact hb.1.2⟩
    · exact belowH_at hb.2 h
  | (k, .row z t m es) :: r, hb, id, o, h => by
    simp only [belowH, Bool.and_eq_true, decide_eq_true_eq] at hb
    simp only [hget] at h
    split at h
    · rename_i he
      subst he
      simp only [Option.some.injEq] at h
      subst h
      exact ⟨hb.1, fun t' cs' he => by cases he⟩
    · exact belowH_at hb.2 h
  | (k, .oth Φ) :: r, hb, id, o, h => by
    simp only [belowH, Bool.and_eq_true, decide_eq_true_eq] at hb
    simp only [hget] at h
    split at h
    · rename_i he
      subst he
      simp only [Option.some.injEq] at h
      subst h
      exact ⟨hb.1, fun t' cs' he => by cases he⟩
    · exact belowH_at hb.2 h

mutual
/-- What a slot holds, seen as immutable where nothing of it can still be written. -/
def viewA (σ : Heap) : AV → AV
  | .sl id => match hget σ id with
    | some (.row true _ n es) => .rv (.sl n es)
    | _ => .sl id
  | .agg cs => .agg (viewL σ cs)
  | .tuple cs => .tuple (viewL σ cs)
  | .fn f p q => .fn f (viewL σ p) (viewL σ q)
  | .rv x => .rv x
  | .ptr id off => .ptr id off
  | .eptr id i off => .eptr id i off
  | .ref id => .ref id
  | .top => .top
def viewL (σ : Heap) : List AV → List AV
  | [] => []
  | x :: r => viewA σ x :: viewL σ r
end
theorem viewL_length (σ : Heap) : ∀ (l : List AV), (viewL σ l).length = l.length
  | [] => rfl
  | x :: r => by simp [viewL, viewL_length σ r]
theorem viewL_at (σ : Heap) : ∀ {l : List AV} {j : Nat} {x : AV}, (viewL σ l)[j]? = some x → ∃ y, l[j]? = some y ∧ x = viewA σ y
  | [], j, x, h => by simp [viewL] at h
  | y :: r, j, x, h => by
    cases j with
    | zero => simp [viewL] at h; exact ⟨y, by simp, h.symm⟩
    | succ j => simp [viewL] at h; simpa using viewL_at σ h

theorem viewA_rel {w : World} {ro : Nat → Prop} {σ : Heap} {β : Nat → Value} {N : Nat} (hh : HRel w ro σ β N) {x : AV} {c : Value} (h : ARel w ro σ β N x c) : ARel w ro σ β N (viewA σ x) c := by
  induction h with
  | sl id c hl hp =>
    simp only [viewA]
    split
    · rename_i t n es hg
      rw [hp true t n es hg]
      have := hh.objs id _ hg
      cases this with
      | fro _ _ _ h1 => exact .rv _ _ h1
    · exact .sl id c hl hp
  | rv x c h => exact .rv x c h
  | agg cs c h1 _ ih =>
    refine .agg _ c (by rw [viewL_length]; exact h1) fun j x hj => ?_
    obtain ⟨y, hy, rfl⟩ := viewL_at σ hj
    exact ih j y hy
  | tuple cs c h1 _ ih =>
    refine .tuple _ c (by rw [viewL_length]; exact h1) fun j x hj => ?_
    obtain ⟨y, hy, rfl⟩ := viewL_at σ hj
    exact ih j y hy
  | ptr id off c h1 h2 => exact .ptr id off c h1 h2
  | eptr id i off c h1 h2 => exact .eptr id i off c h1 h2
  | fn f p q c d h1 h2 _ _ ih1 ih2 =>
    refine .fn f _ _ c d (by rw [viewL_length]; exact h1) (by rw [viewL_length]; exact h2) (fun j x hj => ?_) (fun j x hj => ?_)
    · obtain ⟨y, hy, rfl⟩ := viewL_at σ hj
      exact ih1 j y hy
    · obtain ⟨y, hy, rfl⟩ := viewL_at σ hj
      exact ih2 j y hy
  | ref id c h1 h2 => exact .ref id c h1 h2
  | top c => exact .top c

mutual
/-- Nothing of the own blocks occurs in it. -/
def pureA : AV → Bool
  | .rv _ => true
  | .agg cs => pureL cs
  | .tuple cs => pureL cs
  | .fn _ p q => pureL p && pureL q
  | .top => true
  | .ptr _ _ => false
  | .eptr _ _ _ => false
  | .sl _ => false
  | .ref _ => false
def pureL : List AV → Bool
  | [] => true
  | x :: r => pureA x && pureL r
end
theorem pureL_at : ∀ {cs : List AV}, pureL cs = true → ∀ {j : Nat} {x : AV}, cs[j]? = some x → pureA x = true
  | [], _, j, x, h => by simp at h
  | y :: r, hb, j, x, h => by
    simp only [pureL, Bool.and_eq_true] at hb
    cases j with
    | zero => simp at h; subst h; exact hb.1
    | succ j => simp at h; exact pureL_at hb.2 h
theorem pure_rel {w : World} {ro : Nat → Prop} {σ τ : Heap} {β γ : Nat → Value} {N M : Nat} {x : AV} {c : Value} (h : ARel w ro σ β N x c) (hp : pureA x = true) : ARel w ro τ γ M x c := by
  induction h with
  | rv x c h => exact .rv x c h
  | agg cs c h1 _ ih =>
    simp only [pureA] at hp
    exact .agg cs c h1 fun j x hj => ih j x hj (pureL_at hp hj)
  | tuple cs c h1 _ ih =>
    simp only [pureA] at hp
    exact .tuple cs c h1 fun j x hj => ih j x hj (pureL_at hp hj)
  | fn f p q c d h1 h2 _ _ ih1 ih2 =>
    simp only [pureA, Bool.and_eq_true] at hp
    exact .fn f p q c d h1 h2 (fun j x hj => ih1 j x hj (pureL_at hp.1 hj)) (fun j x hj => ih2 j x hj (pureL_at hp.2 hj))
  | top c => exact .top c
  | ptr => simp [pureA] at hp
  | eptr => simp [pureA] at hp
  | sl => simp [pureA] at hp
  | ref => simp [pureA] at hp

mutual
/-- Names moved up by d. -/
def shiftA (d : Nat) : AV → AV
  | .rv x => .rv x
  | .agg cs => .agg (shiftL d cs)
  | .tuple cs => .tuple (shiftL d cs)
  | .ptr id off => .ptr (d + id) off
  | .eptr id i off => .eptr (d + id) i off
  | .sl id => .sl (d + id)
  | .fn f p q => .fn f (shiftL d p) (shiftL d q)
  | .ref id => .ref (d + id)
  | .top => .top
def shiftL (d : Nat) : List AV → List AV
  | [] => []
  | x :: r => shiftA d x :: shiftL d r
end
def shiftH (d : Nat) : Heap → Heap
  | [] => []
  | (id, .box t cs) :: r => (d + id, .box t (shiftL d cs)) :: shiftH d r
  | (id, .row z t n es) :: r => (d + id, .row z t n es) :: shiftH d r
  | (id, .oth Φ) :: r => (d + id, .oth Φ) :: shiftH d r

def shiftO (d : Nat) : AObj → AObj
  | .box t cs => .box t (shiftL d cs)
  | .row z t n es => .row z t n es
  | .oth Φ => .oth Φ

theorem shiftL_length (d : Nat) : ∀ (l : List AV), (shiftL d l).length = l.length
  | [] => rfl
  | x :: r => by simp [shiftL, shiftL_length d r]
theorem shiftL_at (d : Nat) : ∀ {l : List AV} {j : Nat} {x : AV}, (shiftL d l)[j]? = some x → ∃ y, l[j]? = some y ∧ x = shiftA d y
  | [], j, x, h => by simp [shiftL] at h
  | y :: r, j, x, h => by
    cases j with
    | zero => simp [shiftL] at h; exact ⟨y, by simp, h.symm⟩
    | succ j => simp [shiftL] at h; simpa using shiftL_at d h

theorem hget_append (σ τ : Heap) (id : Nat) : hget (σ ++ τ) id = (hget σ id).or (hget τ id) := by
  induction σ with
  | nil => simp [hget]
  | cons p r ih =>
    obtain ⟨k, o⟩ := p
    simp only [List.cons_append, hget]
    split
    · simp
    · exact ih

theorem hget_shiftH (d : Nat) : ∀ (σ : Heap) (id : Nat), hget (shiftH d σ) id = if d ≤ id then (hget σ (id - d)).map (shiftO d) else none
  | [], id => by simp [shiftH, hget]
  | (k, .box t cs) :: r, id => by
    simp only [shiftH, hget, hget_shiftH d r]
    by_cases h1 : d + k = id
    · have h2 : d ≤ id := by omega
      have h3 : k = id - d := by omega
      simp [h2, h3, shiftO]
    · by_cases h2 : d ≤ id
      · have h3 : ¬ k = id - d := by omega
        simp [h1, h2, h3]
      · simp [h1, h2]
  | (k, .row z t n es) :: r, id => by
    simp only [shiftH, hget, hget_shiftH d r]
    by_cases h1 : d + k = id
    · have h2 : d ≤ id := by omega
      have h3 : k = id - d := by omega
      simp [h2, h3, shiftO]
    · by_cases h2 : d ≤ id
      · have h3 : ¬ k = id - d := by omega
        simp [h1, h2, h3]
      · simp [h1, h2]
  | (k, .oth Φ) :: r, id => by
    simp only [shiftH, hget, hget_shiftH d r]
    by_cases h1 : d + k = id
    · have h2 : d ≤ id := by omega
      have h3 : k = id - d := by omega
      simp [h2, h3, shiftO]
    · by_cases h2 : d ≤ id
      · have h3 : ¬ k = id - d := by omega
        simp [h1, h2, h3]
      · simp [h1, h2]

/-- The callee's own blocks beside the caller's: relation of what the callee returned. -/
theorem ARel.shift {w : World} {ro ro' : Nat → Prop} {σ τ : Heap} {β γ : Nat → Value} {N M : Nat} {x : AV} {c : Value} (h : ARel w ro σ β N x c) (hro : ∀ b, ro b → ro' b)
    (hτ : ∀ id o, hget τ id = some o → id < M) :
    ARel w ro' (shiftH M σ ++ τ) (fun k => if M ≤ k then β (k - M) else γ k) (M + N) (shiftA M x) c := by
  have key : ∀ id, hget (shiftH M σ ++ τ) (M + id) = (hget σ id).map (shiftO M) := by
    intro id
    rw [hget_append, hget_shiftH]
    have h1 : M ≤ M + id := by omega
    simp only [h1, if_true, Nat.add_sub_cancel_left]
    cases hs : hget σ id with
    | some o => simp
    | none =>
      simp
      cases ht : hget τ (M + id) with
      | none => rfl
      | some o => have := hτ _ _ ht; omega
  induction h with
  | rv x c hx => exact .rv x c (hx.keep (fun _ _ => rfl) hro)
  | agg cs c hs _ ih =>
    refine .agg _ c (by rw [shiftL_length]; exact hs) fun j x hj => ?_
    obtain ⟨y, hy, rfl⟩ := shiftL_at M hj
    exact ih j y hy
  | tuple cs c hs _ ih =>
    refine .tuple _ c (by rw [shiftL_length]; exact hs) fun j x hj => ?_
    obtain ⟨y, hy, rfl⟩ := shiftL_at M hj
    exact ih j y hy
  | ptr id off c hl hp =>
    refine .ptr _ off c (by omega) fun t cs hg => ?_
    rw [key] at hg
    simp only [Nat.le_add_right, if_true, Nat.add_sub_cancel_left]
    cases hs : hget σ id with
    | none => simp [hs] at hg
    | some o =>
      cases o with
      | box t' cs' => exact hp t' cs' hs
      | row => simp [hs, shiftO] at hg
      | oth => simp [hs, shiftO] at hg
  | eptr id i off c hl hp =>
    refine .eptr _ i off c (by omega) fun z t n es hg => ?_
    rw [key] at hg
    simp only [Nat.le_add_right, if_true, Nat.add_sub_cancel_left]
    cases hs : hget σ id with
    | none => simp [hs] at hg
    | some o =>
      cases o with
      | box t' cs' => simp [hs, shiftO] at hg
      | oth => simp [hs, shiftO] at hg
      | row z' t' n' es' =>
        simp only [hs, Option.map_some, shiftO, Option.some.injEq, AObj.row.injEq] at hg
        obtain ⟨rfl, rfl, rfl, rfl⟩ := hg
        exact hp _ _ _ _ hs
  | sl id c hl hp =>
    refine .sl _ c (by omega) fun z t n es hg => ?_
    rw [key] at hg
    simp only [Nat.le_add_right, if_true, Nat.add_sub_cancel_left]
    cases hs : hget σ id with
    | none => simp [hs] at hg
    | some o =>
      cases o with
      | box t' cs' => simp [hs, shiftO] at hg
      | oth => simp [hs, shiftO] at hg
      | row z' t' n' es' => exact hp _ _ _ _ hs
  | fn f p q c d h1 h2 _ _ ih1 ih2 =>
    refine .fn f _ _ c d (by rw [shiftL_length]; exact h1) (by rw [shiftL_length]; exact h2) (fun j x hj => ?_) (fun j x hj => ?_)
    · obtain ⟨y, hy, rfl⟩ := shiftL_at M hj
      exact ih1 j y hy
    · obtain ⟨y, hy, rfl⟩ := shiftL_at M hj
      exact ih2 j y hy
  | ref id c hl hp =>
    refine .ref _ c (by omega) fun Φ hg => ?_
    rw [key] at hg
    simp only [Nat.le_add_right, if_true, Nat.add_sub_cancel_left]
    cases hs : hget σ id with
    | none => simp [hs] at hg
    | some o =>
      cases o with
      | box => simp [hs, shiftO] at hg
      | row => simp [hs, shiftO] at hg
      | oth Φ' => exact hp Φ' hs
  | top c => exact .top c

/-- Can it be called by its number: it has a body, and its name is none that the model treats by itself. -/
def callable (P : Program) (f : FuncId) : Bool :=
  match P.funcs[f]? with
  | some fn => !(fn.name == "runtime.NumGoroutine") && fn.body.isSome
  | none => false

theorem callable_run {P : Program} {f : FuncId} (h : callable P f = true) (args : Array Value) (w : World) : (callFunc f args).run P w = .ok (.enter f args) w := by
  unfold callable at h
  split at h
  · rename_i fn hf
    simp only [Bool.and_eq_true, Bool.not_eq_true'] at h
    have h2 : fn.body ≠ none := by intro e; simp [e] at h
    have h3 : fn.name ≠ "runtime.NumGoroutine" := by simpa using h.1
    simp [callFunc, hf, h2, h3]
  · cases h

section
variable {P : Program} {G : Glob} {s : St} {Q : Exit → St → Prop}

/-- A call by contract; the arguments are immutable (or say nothing), nothing is handed in. The callee's new blocks become the caller's. -/
theorem OpStep.call {o : Oper} {x : Operand} {xs : Array Operand} {ts : Array TypeId} (ho : o.op = .call { callee := .value x, args := xs, argTypes := ts }) {f : FuncId} (hx : aval G s x = .fn (.func f) [] [])
    (hcb : callable P f = true) {args : List AV} (hargs : xs.toList.map (fun y => viewA s.heap (aval G s y)) = args) (hpure : pureL args = true) {R : AV → Heap → Prop} (hc : ACalls P G f args [] 0 R) {K : Nat} {r : AV} {τ : Heap}
    (hR : ∀ r' τ', R r' τ' → r' = r ∧ τ' = τ) (hK1 : belowA K r = true) (hK2 : belowH K τ = true) (hb : s.base ≤ s.next) :
    OpStep P G o s ({ s with heap := shiftH s.next τ ++ s.heap, next := s.next + K }.put o.dst (shiftA s.next r)) := by
  intro E a w ⟨β, ro, h⟩ KK QQ hKK
  have hfx := h.eval x
  rw [hx] at hfx
  generalize he : a.eval x = fv at hfx
  cases hfx with
  | fn _ _ _ c d h1 h2 _ _ =>
    have hc0 : c = #[] := by simpa using h1
    have hd0 : d = #[] := by simpa using h2
    subst hc0 hd0
    unfold Oper.wp
    simp only [execOp, ho, resolve, he, Deferred.ofValue, Sem.run_bind, Sem.run_pure, Result.andThen_ok, invoke, Array.empty_append, Array.append_empty]
    rw [callable_run hcb]
    have hlen : xs.toList.length = args.length := by have := congrArg List.length hargs; simpa using this
    have hcall := hc w β ro (xs.map a.eval) (by simpa using hlen) (fun i y hy => by
        have hi : (xs.toList.map (fun y => viewA s.heap (aval G s y)))[i]? = some y := by rw [hargs]; exact hy
        rw [List.getElem?_map] at hi
        cases hxi : xs.toList[i]? with
        | none => simp [hxi] at hi
        | some z =>
          simp [hxi] at hi
          have hv := viewA_rel h.heap (h.eval z)
          rw [hi] at hv
          have hxi' : xs[i]? = some z := by simpa using hxi
          have hev : (xs.map a.eval).getD i undef = a.eval z := by simp [hxi']
          rw [hev]
          exact pure_rel hv (pureL_at hpure hy)) ⟨by simp [hget], by simp [hget], fun b _ ⟨_, _, hg, _⟩ => by simp [hget] at hg, h.heap.lt⟩ h.glob (by simp [hget])
    refine Calls.mono hcall fun e w' hq => ?_
    obtain ⟨v, r', τ', β', ro', n', rfl, hRr, hrel, hh', ht'⟩ := hq
    obtain ⟨rfl, rfl⟩ := hR r' τ' hRr
    have noOwn : ∀ b, ¬ Own ([] : Heap) β b := fun b ⟨_, _, hg, _⟩ => by simp [hget] at hg
    have hframe : ∀ b, b < w.heap.size → w'.heap[b]? = w.heap[b]? := fun b hb => ht'.frame b hb (noOwn b)
    have hrel' := hrel.lower hK1
    have hnew := h.heap
    have hτlt := fun id o hg => h.trans.new id o hg
    have hro : ∀ b, ro b → w'.heap[b]? = w.heap[b]? := fun b hb => hframe b (h.heap.lt b hb)
    have ownLt : ∀ k p b, hget s.heap k = some p → p.live = true → blk (β k) = some b → b < w.heap.size := fun k p b hk hp hbk => (h.heap.objs k p hk).blkLt hp hbk
    have newGe : ∀ k p b, hget τ' k = some p → p.live = true → blk (β' k) = some b → w.heap.size ≤ b := by
      intro k p b hk hp hbk
      rcases ht'.ownSub b ⟨k, p, hk, hp, hbk⟩ with hc | hc
      · exact absurd hc (noOwn b)
      · exact hc
    -- the names: from s.next on the callee's
    have look : ∀ id, hget (shiftH s.next τ' ++ s.heap) id = if s.next ≤ id then (hget τ' (id - s.next)).map (shiftO s.next) else hget s.heap id := by
      intro id
      rw [hget_append, hget_shiftH]
      by_cases hi : s.next ≤ id
      · simp only [hi, if_true]
        cases hs : hget τ' (id - s.next) with
        | some p => simp
        | none =>
          simp
          cases ht : hget s.heap id with
          | none => rfl
          | some p => have := hτlt _ _ ht; omega
      · simp [hi]
    have up : ∀ x c, ARel w ro s.heap β s.next x c → ARel w' (fun b => ro b ∨ ro' b) (shiftH s.next τ' ++ s.heap) (fun k => if s.next ≤ k then β' (k - s.next) else β k) (s.next + K) x c := by
      intro x c hx
      induction hx with
      | rv x c hx => exact .rv x c (hx.keep hro fun _ h => .inl h)
      | agg cs c hs _ ih => exact .agg cs c hs ih
      | tuple cs c hs _ ih => exact .tuple cs c hs ih
      | ptr k off c hl hp =>
        have hk : ¬ s.next ≤ k := by omega
        exact .ptr k off c (by omega) fun t cs hgk => by rw [look, if_neg hk] at hgk; simp only [hk, if_false]; exact hp t cs hgk
      | eptr k i off c hl hp =>
        have hk : ¬ s.next ≤ k := by omega
        exact .eptr k i off c (by omega) fun z t n es hgk => by rw [look, if_neg hk] at hgk; simp only [hk, if_false]; exact hp z t n es hgk
      | sl k c hl hp =>
        have hk : ¬ s.next ≤ k := by omega
        exact .sl k c (by omega) fun z t n es hgk => by rw [look, if_neg hk] at hgk; simp only [hk, if_false]; exact hp z t n es hgk
      | fn f p q c d h1 h2 _ _ ih1 ih2 => exact .fn f p q c d h1 h2 ih1 ih2
      | ref k c hl hp =>
        have hk : ¬ s.next ≤ k := by omega
        exact .ref k c (by omega) fun Φ hgk => by rw [look, if_neg hk] at hgk; simp only [hk, if_false]; exact hp Φ hgk
      | top c => exact .top c
    have hroS : ∀ b, ro' b → ro b ∨ w.heap.size ≤ b := fun b hb => by
      rcases ht'.roSub b hb with h | h | h
      · exact .inl h
      · exact absurd h (noOwn b)
      · exact .inr h
    refine hKK _ _ ⟨fun k => if s.next ≤ k then β' (k - s.next) else β k, fun b => ro b ∨ ro' b, RelAt.put (s := { s with heap := shiftH s.next τ' ++ s.heap, next := s.next + K }) ⟨h.defers, h.size, fun i x hx => up _ _ (h.slot i x hx), ⟨fun id p hg => ?_, ?_, ?_, ?_⟩, ?_, ?_, h.base⟩ o.dst _ _ ?_⟩
    · simp only [look] at hg
      by_cases hi : s.next ≤ id
      · simp only [hi, if_true] at hg
        cases hs : hget τ' (id - s.next) with
        | none => simp [hs] at hg
        | some q =>
          simp [hs] at hg
          subst hg
          obtain ⟨_, hbx⟩ := belowH_at hK2 hs
          have hoo := hh'.objs _ q hs
          cases hoo with
          | box t cs b arr e1 e2 e3 e4 =>
            refine .box t _ b arr (by simp [hi, e1]) e2 (by rw [shiftL_length]; exact e3) fun j x hj => ?_
            obtain ⟨y, hy, rfl⟩ := shiftL_at s.next hj
            exact ARel.shift ((e4 j y hy).lower (belowL_at (hbx t cs rfl) hy)) (fun _ h => .inr h) hτlt
          | row t n es xs e1 e2 e3 => exact .row t n es xs (by simp only [hi, if_true]; exact e1) e2 fun j x hj => (e3 j x hj).keep (fun _ _ => rfl) fun _ h => .inr h
          | fro t n es e1 => exact .fro t n es (by simp only [hi, if_true]; exact e1.keep (fun _ _ => rfl) fun _ h => .inr h)
          | oth Φ b o e1 e2 e3 => exact .oth Φ b o (by simp only [hi, if_true]; exact e1) e2 (by simp only [hi, if_true]; exact Φ.mono _ _ _ _ (fun x c h => h.keep (fun _ _ => rfl) fun _ h => .inr h) e3)
      · simp only [hi, if_false] at hg
        have hoo := h.heap.objs id p hg
        cases hoo with
        | box t cs b arr e1 e2 e3 e4 =>
          have hbl := ownLt id _ b hg rfl (by rw [e1]; rfl)
          exact .box t cs b arr (by simp only [hi, if_false]; exact e1) ((hframe b hbl).trans e2) e3 fun j x hj => up _ _ (e4 j x hj)
        | row t n es xs e1 e2 e3 =>
          exact .row t n es xs (by simp only [hi, if_false]; exact e1.keep fun b hb => hframe b (e1.blkLt hb).1) e2 fun j x hj => (e3 j x hj).keep hro fun _ h => .inl h
        | fro t n es e1 => exact .fro t n es (by simp only [hi, if_false]; exact e1.keep hro fun _ h => .inl h)
        | oth Φ b o e1 e2 e3 => exact .oth Φ b o (by simp only [hi, if_false]; exact e1) ((hframe b (Array.getElem?_eq_some_iff.1 e2).1).trans e2) (by simp only [hi, if_false]; exact Φ.mono _ _ _ _ (fun x c h => h.keep hro fun _ h => .inl h) e3)
    · intro id id' p p' b hg hg' hp hp' hbk hbk'
      rw [look] at hg hg'
      by_cases hi : s.next ≤ id
      · simp only [hi, if_true] at hg hbk
        cases hs : hget τ' (id - s.next) with
        | none => simp [hs] at hg
        | some q =>
          have hql : q.live = true := by simp [hs] at hg; subst hg; cases q <;> first | rfl | exact hp
          have hge := newGe _ q b hs hql hbk
          by_cases hi' : s.next ≤ id'
          · simp only [hi', if_true] at hg' hbk'
            cases hs' : hget τ' (id' - s.next) with
            | none => simp [hs'] at hg'
            | some q' =>
              have hql' : q'.live = true := by simp [hs'] at hg'; subst hg'; cases q' <;> first | rfl | exact hp'
              have := hh'.inj _ _ q q' b hs hs' hql hql' hbk hbk'
              omega
          · simp only [hi', if_false] at hg' hbk'
            have := ownLt id' p' b hg' hp' hbk'
            omega
      · simp only [hi, if_false] at hg hbk
        have hlt1 := ownLt id p b hg hp hbk
        by_cases hi' : s.next ≤ id'
        · simp only [hi', if_true] at hg' hbk'
          cases hs' : hget τ' (id' - s.next) with
          | none => simp [hs'] at hg'
          | some q' =>
            have hql' : q'.live = true := by simp [hs'] at hg'; subst hg'; cases q' <;> first | rfl | exact hp'
            have hge := newGe _ q' b hs' hql' hbk'
            omega
        · simp only [hi', if_false] at hg' hbk'
          exact h.heap.inj id id' p p' b hg hg' hp hp' hbk hbk'
    · rintro b hb ⟨id, p, hg, hp, hbk⟩
      rw [look] at hg
      by_cases hi : s.next ≤ id
      · simp only [hi, if_true] at hg hbk
        cases hs : hget τ' (id - s.next) with
        | none => simp [hs] at hg
        | some q =>
          have hql : q.live = true := by simp [hs] at hg; subst hg; cases q <;> first | rfl | exact hp
          have hge := newGe _ q b hs hql hbk
          rcases hb with hb | hb
          · have := h.heap.lt b hb; omega
          · exact hh'.disj b hb ⟨_, q, hs, hql, hbk⟩
      · simp only [hi, if_false] at hg hbk
        have hlt1 := ownLt id p b hg hp hbk
        rcases hb with hb | hb
        · exact h.heap.disj b hb ⟨id, p, hg, hp, hbk⟩
        · rcases hroS b hb with hc | hc
          · exact h.heap.disj b hc ⟨id, p, hg, hp, hbk⟩
          · omega
    · intro b hb
      rcases hb with hb | hb
      · exact Nat.lt_of_lt_of_le (h.heap.lt b hb) ht'.size
      · exact hh'.lt b hb
    · exact h.glob.keep hro fun _ h => .inl h
    · have t := h.trans
      refine ⟨ht'.os.trans t.os, ht'.tape.trans t.tape, ht'.output.trans t.output, Nat.le_trans t.size ht'.size, fun b hbl hno => (hframe b (Nat.lt_of_lt_of_le hbl t.size)).trans (t.frame b hbl hno), ?_, fun b hb => .inl (t.roKeep b hb), ?_, ?_, ?_, ?_⟩
      · intro b hb
        rcases hb with hb | hb
        · exact t.roSub b hb
        · rcases hroS b hb with hc | hc
          · exact t.roSub b hc
          · exact .inr (.inr (Nat.le_trans t.size hc))
      · rintro b ⟨id, p, hg, hp, hbk⟩
        rw [look] at hg
        by_cases hi : s.next ≤ id
        · simp only [hi, if_true] at hg hbk
          cases hs : hget τ' (id - s.next) with
          | none => simp [hs] at hg
          | some q =>
            have hql : q.live = true := by simp [hs] at hg; subst hg; cases q <;> first | rfl | exact hp
            exact .inr (Nat.le_trans t.size (newGe _ q b hs hql hbk))
        · simp only [hi, if_false] at hg hbk
          exact t.ownSub b ⟨id, p, hg, hp, hbk⟩
      · intro id hid p hg
        have h1 := h.base
        have hi : ¬ s.next ≤ id := by omega
        rw [look, if_neg hi] at hg
        simp only [hi, if_false]
        exact t.old id hid p hg
      · intro id p hg
        simp only [look] at hg
        by_cases hi : s.next ≤ id
        · simp only [hi, if_true] at hg
          cases hs : hget τ' (id - s.next) with
          | none => simp [hs] at hg
          | some q =>
            have := (belowH_at hK2 hs).1
            show id < s.next + K
            omega
        · show id < s.next + K
          omega
      · have := h.base
        show E.n ≤ s.next + K
        omega
    · exact ARel.shift hrel' (fun _ h => .inr h) hτlt
end
end Go.Av
