/- The AV calculus, part Z: a region that draws its order, looked at in every order. Conditions: none. -/
import Derived.Test.YtjgpnceaicijcaaPMx
namespace Go.Av
open Go

theorem wp_conv {P : Program} {o : Oper} {a : Act} {w : World} {K K' : Act → World → Prop} {Q Q' : Exit → Act → World → Prop} (h : ∀ a w, K a w → K' a w) (hp : ∀ c a w, Q (.panic c) a w → Q' (.panic c) a w) (ho : LetsOut Q → LetsOut Q')
    (hh : o.wp P a w K Q) : o.wp P a w K' Q' := by
  unfold Oper.wp at *
  generalize (execOp a.eval o).run P w = r at *
  cases r with
  | ok n w' =>
    cases n <;> simp only [Oper.upon] at hh ⊢ <;>
      first
        | exact h _ _ hh
        | exact Calls.mono hh (fun e w'' he => by cases e <;> first | exact h _ _ he | exact hp _ _ _ he | exact ho he)
        | exact Rows.mono hh (fun _ _ he => h _ _ he)
  | halt x w' => cases x <;> simp only [Oper.upon] at hh ⊢ <;> first | exact hp _ _ _ hh | exact hh

section
variable {P : Program} {G : Glob} {Q : Exit → St → Prop} {L : List Oper}
/-- Only the state t, at the end. -/
def Ends (t : St) : Exit → St → Prop := fun e t' => e = .normal ∧ t' = t
/-- No other end than the normal one. -/
def NQ (Q : Exit → St → Prop) : Exit → St → Prop := fun e s => e = .normal ∧ Q .normal s
/-- With the operations m listed, in the state s, every order of the others ends well. -/
def AD (P : Program) (G : Glob) (L : List Oper) (Q : Exit → St → Prop) (fuel : Nat) (m : List Bool) (s : St) : Prop := ∀ E a w, Rel E G s a w → wpAny P .any L.toArray (lift E G (NQ Q)) fuel m.toArray a w
/-- Each of the operations leads on. -/
inductive ADs (P : Program) (G : Glob) (L : List Oper) (Q : Exit → St → Prop) (fuel : Nat) (m : List Bool) (s : St) : List Nat → Prop where
  | nil : ADs P G L Q fuel m s []
  | cons {i : Nat} {r : List Nat} {o : Oper} (s' : St) (ho : L[i]? = some o) (hs : AOps P G L.toArray (Ends s') [o] s) (k : AD P G L Q fuel (m.set i true) s') (hr : ADs P G L Q fuel m s r) : ADs P G L Q fuel m s (i :: r)

theorem AD.done {n : Nat} {m : List Bool} {s : St} (hq : Q .normal s) (h : Region.ready .any L.toArray m.toArray = [] := by as_aux_lemma => kernel_rfl) : AD P G L Q n m s := by
  intro E a w hr
  cases n with
  | zero => exact ⟨h, s, ⟨rfl, hq⟩, hr⟩
  | succ n => exact ⟨fun _ => ⟨s, ⟨rfl, hq⟩, hr⟩, fun i hi => by rw [h] at hi; cases hi⟩

theorem ADs.at {fuel : Nat} {m : List Bool} {s : St} {rd : List Nat} (h : ADs P G L Q fuel m s rd) {i : Nat} (hi : i ∈ rd) : ∃ o s', L[i]? = some o ∧ AOps P G L.toArray (Ends s') [o] s ∧ AD P G L Q fuel (m.set i true) s' := by
  induction h with
  | nil => cases hi
  | cons s' ho hs k _ ih =>
    rcases List.mem_cons.1 hi with rfl | h
    · exact ⟨_, s', ho, hs, k⟩
    · exact ih h

theorem AD.step {fuel : Nat} {m : List Bool} {s : St} (i0 : Nat) (rd : List Nat) (hs : ADs P G L Q fuel m s (i0 :: rd)) (h : Region.ready .any L.toArray m.toArray = i0 :: rd := by as_aux_lemma => kernel_rfl) : AD P G L Q (fuel + 1) m s := by
  intro E a w hr
  refine ⟨fun hn => (by rw [h] at hn; cases hn), fun i hi => ?_⟩
  rw [h] at hi
  obtain ⟨o, s', ho, h1, h2⟩ := hs.at hi
  have h3 := h1 E a w hr
  have hset : m.toArray.setIfInBounds i true = (m.set i true).toArray := by simp
  have next : ∀ a' w', lift E G (Ends s') .normal a' w' → wpAny P .any L.toArray (lift E G (NQ Q)) fuel (m.toArray.setIfInBounds i true) a' w' := by
    rintro a' w' ⟨t, ⟨_, rfl⟩, hr'⟩
    rw [hset]
    exact h2 E a' w' hr'
  unfold wpOp
  rw [show L.toArray[i]? = some o from by simpa using ho]
  simp only
  unfold wpList at h3
  split at h3
  · rename_i hw
    rw [if_pos hw]
    have hout : LetsOut (lift E G (Ends s')) → LetsOut (lift E G (NQ Q)) := by
      rintro ⟨_, _, _, ⟨hn, _⟩, _⟩
      cases hn
    rcases h3 with h3 | ⟨h3, h4⟩
    · refine .inl (wp_conv (fun a' w' hk => next a' w' hk) (fun c a w => ?_) hout h3)
      rintro ⟨_, ⟨hn, _⟩, _⟩
      cases hn
    · exact .inr ⟨h3, hout h4⟩
  · rename_i hw
    rw [if_neg hw]
    exact next _ _ h3

/-- An operation whose value hangs on no memory, and is there at once: it may be taken first. -/
def PStep (P : Program) (G : Glob) (ops : Array Oper) (o : Oper) (s s' : St) : Prop := ∀ E a w, Rel E G s a w → ∃ v, Yields P ops o v a ∧ Rel E G s' (a.put o.dst v) w
theorem AD.take {fuel : Nat} {m : List Bool} {s s' : St} (i : Nat) {o : Oper} (ho : L[i]? = some o) (hp : PStep P G L.toArray o s s') (k : AD P G L Q fuel (m.set i true) s') (hs : Region.noSelect L.toArray = true := by as_aux_lemma => kernel_rfl)
    (hf : Region.free .any L.toArray m.toArray i = true := by as_aux_lemma => kernel_rfl) (hr : (Region.ready .any L.toArray m.toArray).contains i = true := by as_aux_lemma => kernel_rfl) : AD P G L Q (fuel + 1) m s := by
  intro E a w hrel
  obtain ⟨v, hv, hrel'⟩ := hp E a w hrel
  refine wpAny_take (oi := o) (v := v) (by simpa using ho) hs hf hr (fun c a w hq => ?_) hv (by simpa using k E _ w hrel')
  obtain ⟨_, ⟨h, _⟩, _⟩ := hq
  cases h
/-- Values that hang on no memory. -/
def pval (P : Program) (G : Glob) (o : Oper) (s : St) : Option AV :=
  match o.op with
  | .move x => some (aval G s x)
  | .assign x => some (aval G s x)
  | .fieldAddr t x f => match fldOff P t f, ptrA s.heap (aval G s x) with
    | some k, true => some (shiftP k (aval G s x))
    | _, _ => none
  | .nilCheck x => match ptrA s.heap (aval G s x) with
    | true => some (aval G s x)
    | false => none
  | _ => none
theorem PStep.val {ops : Array Oper} {o : Oper} {s : St} {v : AV} (hv : pval P G o s = some v) (hg : gwant ops s o = some true) : PStep P G ops o s (s.put o.dst v) := by
  intro E a w ⟨β, ro, hr⟩
  have hw := wanted_of (ops := ops) ⟨β, ro, hr⟩ hg
  unfold pval at hv
  split at hv
  · rename_i x ho
    simp only [Option.some.injEq] at hv
    subst hv
    exact ⟨_, .inl ⟨hw, fun w' => by simp [execOp, ho]⟩, β, ro, hr.put _ _ _ (hr.eval x)⟩
  · rename_i x ho
    simp only [Option.some.injEq] at hv
    subst hv
    exact ⟨_, .inl ⟨hw, fun w' => by simp [execOp, ho]⟩, β, ro, hr.put _ _ _ (hr.eval x)⟩
  · rename_i t x f ho
    split at hv
    · rename_i k hk hc
      simp only [Option.some.injEq] at hv
      subst hv
      obtain ⟨ad, he, hrel⟩ := ptrA_rel hc (hr.eval x)
      exact ⟨_, .inl ⟨hw, fun w' => by simp [execOp, ho, he, fldOff_run hk]⟩, β, ro, hr.put _ _ _ (hrel k)⟩
    · cases hv
  · rename_i x ho
    split at hv
    · rename_i hc
      simp only [Option.some.injEq] at hv
      subst hv
      obtain ⟨ad, he, hrel⟩ := ptrA_rel hc (hr.eval x)
      exact ⟨_, .inl ⟨hw, fun w' => by simp [execOp, ho, he]⟩, β, ro, hr.put _ _ _ (he ▸ hr.eval x)⟩
    · cases hv
  · cases hv
theorem PStep.skip {ops : Array Oper} {o : Oper} {s : St} (hg : gwant ops s o = some false) : PStep P G ops o s (s.put o.dst (.tuple [])) := by
  intro E a w hr
  have hw := wanted_of (ops := ops) hr hg
  exact ⟨undef, .inr ⟨hw, rfl⟩, hr.putUndef o.dst⟩
/-- The next state of such an operation. -/
def pstate (P : Program) (G : Glob) (ops : Array Oper) (o : Oper) (s : St) : Option St :=
  match gwant ops s o with
  | some true => (pval P G o s).map fun v => s.put o.dst v
  | some false => some (s.put o.dst (.tuple []))
  | none => none
theorem pstate_sound {ops : Array Oper} {o : Oper} {s s' : St} (h : pstate P G ops o s = some s') : PStep P G ops o s s' := by
  unfold pstate at h
  split at h
  · rename_i hg
    cases hv : pval P G o s with
    | none => rw [hv] at h; cases h
    | some v =>
      rw [hv] at h
      simp only [Option.map_some, Option.some.injEq] at h
      subst h
      exact .val hv hg
  · rename_i hg
    simp only [Option.some.injEq] at h
    subst h
    exact .skip hg
  · cases h
theorem AD.tk {fuel : Nat} {m : List Bool} {s : St} (i n : Nat) (l : List (Nat × AV)) (h : Heap) (N : Nat) (k : AD P G L Q fuel (m.set i true) (Z n l h N))
    (hp : ((L[i]?).bind fun o => pstate P G L.toArray o s).map (fun s' => (vw l h s', s'.next)) = some (⟨l, h, n, 0⟩, N) := by as_aux_lemma => kernel_rfl) (hs : Region.noSelect L.toArray = true := by as_aux_lemma => kernel_rfl)
    (hf : Region.free .any L.toArray m.toArray i = true := by as_aux_lemma => kernel_rfl) (hr : (Region.ready .any L.toArray m.toArray).contains i = true := by as_aux_lemma => kernel_rfl) : AD P G L Q (fuel + 1) m s := by
  cases ho : L[i]? with
  | none => rw [ho] at hp; cases hp
  | some o =>
    rw [ho] at hp
    simp only [Option.bind_some] at hp
    cases hs' : pstate P G L.toArray o s with
    | none => rw [hs'] at hp; cases hp
    | some s' =>
      rw [hs'] at hp
      simp only [Option.map_some, Option.some.injEq, Prod.mk.injEq] at hp
      refine AD.take i ho (pstate_sound hs') (fun E a w hr => ?_) hs hf hr
      exact k E a w (le_vw hp.1 (Nat.le_of_eq hp.2) E G a w hr)
/-- The address of an element of an immutable slice. -/
theorem AD.tkI {fuel : Nat} {m : List Bool} {s : St} {α : Type} (i : Nat) (C : α → List RV) (xs : List α) (sz j : Nat) {e : α} (hj : xs[j]? = some e) (n : Nat) (l : List (Nat × AV)) (h : Heap) (N : Nat) (k : AD P G L Q fuel (m.set i true) (Z n l h N))
    (hp : ((L[i]?).bind fun o => match o.op with
      | .indexAddr t x y => match elemSize P t, gwant L.toArray s o with
        | some sz', some true => match Nat.beq sz' sz with
          | true => some (aval G s x, aval G s y, vw l h (s.put o.dst (.rv (.ptr (C e)))), (s.put o.dst (.rv (.ptr (C e)))).next)
          | false => none
        | _, _ => none
      | _ => none) = some (.rv (.sl sz (xs.map C)), vi (j : Int), ⟨l, h, n, 0⟩, N) := by as_aux_lemma => kernel_rfl) (hs : Region.noSelect L.toArray = true := by as_aux_lemma => kernel_rfl)
    (hf : Region.free .any L.toArray m.toArray i = true := by as_aux_lemma => kernel_rfl) (hr : (Region.ready .any L.toArray m.toArray).contains i = true := by as_aux_lemma => kernel_rfl) : AD P G L Q (fuel + 1) m s := by
  cases ho : L[i]? with
  | none => rw [ho] at hp; cases hp
  | some o =>
    rw [ho] at hp
    simp only [Option.bind_some] at hp
    split at hp
    · rename_i t x y hop
      split at hp
      · rename_i sz' hsz hg
        split at hp
        · rename_i hb
          simp only [Option.some.injEq, Prod.mk.injEq] at hp
          obtain ⟨h1, h2, h3, h4⟩ := hp
          have := Nat.eq_of_beq_eq_true hb
          subst this
          refine AD.take i ho (s' := s.put o.dst (.rv (.ptr (C e)))) (fun E a w hr' => ?_) (fun E a w hr' => k E a w (le_vw h3 (Nat.le_of_eq h4) E G a w hr')) hs hf hr
          have hw := wanted_of (ops := L.toArray) hr' hg
          obtain ⟨β, ro, hr'⟩ := hr'
          obtain ⟨E', hu, hse⟩ := elemSize_run hsz
          obtain ⟨ad, len, cap, hc, hlt, hrel⟩ := aelem_rel hr'.heap (n := sz') (j := j) (p := .rv (.ptr (C e))) (hr'.eval x) (by rw [h1]; exact aelem_map hj)
          refine ⟨_, .inl ⟨hw, fun w' => ?_⟩, β, ro, hr'.put _ _ _ hrel⟩
          simp [execOp, hop, hr'.evalV h2, hc, Instr.indexAt, asIntOf, run_underlying hu, hse, hlt]
        · cases hp
      · cases hp
    · cases hp
theorem wpAny_conv {ops : Array Oper} {Q Q' : Exit → Act → World → Prop} (hn : ∀ a w, Q .normal a w → Q' .normal a w) (hp : ∀ c a w, Q (.panic c) a w → Q' (.panic c) a w) (ho : LetsOut Q → LetsOut Q') :
    ∀ (fuel : Nat) (m : Array Bool) (a : Act) (w : World), wpAny P .any ops Q fuel m a w → wpAny P .any ops Q' fuel m a w
  | 0, m, a, w, h => ⟨h.1, hn _ _ h.2⟩
  | fuel + 1, m, a, w, h => by
    refine ⟨fun hr => hn _ _ (h.1 hr), fun i hi => ?_⟩
    have h2 := h.2 i hi
    unfold wpOp at h2 ⊢
    split at h2
    · exact wpAny_conv hn hp ho fuel _ _ _ h2
    · rename_i o _
      by_cases hw : Region.wanted o (yielded ops a.tmps) = true
      · rw [if_pos hw] at h2 ⊢
        rcases h2 with h2 | ⟨h2, h3⟩
        · exact .inl (wp_conv (fun a' w' hk => wpAny_conv hn hp ho fuel _ _ _ hk) hp ho h2)
        · exact .inr ⟨h2, ho h3⟩
      · rw [if_neg hw] at h2 ⊢
        exact wpAny_conv hn hp ho fuel _ _ _ h2
theorem AWp.drawnD {id : Nat} {s : St} (n : Nat) (h : AD P G L Q n (List.replicate n false) s) (hP : P.follows .mixedOrders = true := by as_aux_lemma => kernel_rfl) (hn : Nat.beq L.length n = true := by as_aux_lemma => kernel_rfl) : AWp P G (.region id L.toArray true) Q s := by
  have hn := Nat.eq_of_beq_eq_true hn
  subst hn
  intro E a w hr
  refine wp_region_any hP (wpAny_conv (Q := lift E G (NQ Q)) (fun a w ⟨t, ⟨_, h1⟩, h2⟩ => ⟨t, h1, h2⟩) (fun c a w ⟨_, ⟨hn, _⟩, _⟩ => by cases hn) (by rintro ⟨_, _, _, ⟨hn, _⟩, _⟩; cases hn) _ _ _ _ ?_)
  obtain ⟨β, ro, hr⟩ := hr
  have hg := hr.grow (w' := { w with drawn := w.drawn + 1 }) (ro' := ro) rfl rfl rfl (Nat.le_refl _) (fun _ _ => rfl) (fun _ h => h) (fun _ h => .inl h)
  have := h E a _ ⟨β, ro, hg⟩
  simpa using this
/-- The same, from a state that says more. -/
theorem AWp.drawnA {id : Nat} {s s' : St} (n : Nat) (hle : Le s s') (h : AD P G L Q n (List.replicate n false) s') (hP : P.follows .mixedOrders = true := by as_aux_lemma => kernel_rfl) (hn : Nat.beq L.length n = true := by as_aux_lemma => kernel_rfl) : AWp P G (.region id L.toArray true) Q s :=
  AWp.drawnD n (fun E a w hr => h E a w (hle E G a w hr)) hP hn
/-- What a place of the orders gives, named. -/
theorem AWp.cut {id : Nat} {s s0 : St} {fuel : Nat} {m : List Bool} (h : AD P G L Q fuel m s) (k : AD P G L Q fuel m s → AWp P G (.region id L.toArray true) Q s0) : AWp P G (.region id L.toArray true) Q s0 := k h
end
end Go.Av
