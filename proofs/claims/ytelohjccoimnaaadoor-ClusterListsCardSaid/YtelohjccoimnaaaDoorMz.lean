/- The AV calculus, part Z: a region that draws its order, looked at in every order. Conditions: none. -/
import Derived.Test.YtelohjccoimnaaaDoorMx
namespace Go.Av
open Go

theorem wp_conv {P : Program} {o : Oper} {a : Act} {w : World} {K K' : Act → World → Prop} {Q Q' : Exit → Act → World → Prop} (h : ∀ a w, K a w → K' a w) (hp : ∀ c a w, Q (.panic c) a w → Q' (.panic c) a w) (ho : LetsOut Q → LetsOut Q')
    (hh : o.wp P a w K Q) : o.wp P a w K' Q' := by
  unfold Oper.wp at *
  generalize (execOp a.eval o).run P w = r at *
  cases r with
  | ok n w' =>
    cases n <;> simp only [Oper.upon] at hh ⊢ <;>
      first
        | exact h _ _ hh
        | exact Calls.mono hh (fun e w'' he => by cases e <;> first | exact h _ _ he | exact hp _ _ _ he | exact ho he)
        | exact Rows.mono hh (fun _ _ he => h _ _ he)
  | halt x w' => cases x <;> simp only [Oper.upon] at hh ⊢ <;> first | exact hp _ _ _ hh | exact hh

section
variable {P : Program} {G : Glob} {Q : Exit → St → Prop} {L : List Oper}
/-- Only the state t, at the end. -/
def Ends (t : St) : Exit → St → Prop := fun e t' => e = .normal ∧ t' = t
/-- With the operations m listed, in the state s, every order of the others ends well. -/
def AD (P : Program) (G : Glob) (L : List Oper) (Q : Exit → St → Prop) (fuel : Nat) (m : List Bool) (s : St) : Prop := ∀ E a w, Rel E G s a w → wpAny P .any L.toArray (lift E G Q) fuel m.toArray a w
/-- Each of the operations leads on. -/
inductive ADs (P : Program) (G : Glob) (L : List Oper) (Q : Exit → St → Prop) (fuel : Nat) (m : List Bool) (s : St) : List Nat → Prop where
  | nil : ADs P G L Q fuel m s []
  | cons {i : Nat} {r : List Nat} {o : Oper} (s' : St) (ho : L[i]? = some o) (hs : AOps P G L.toArray (Ends s') [o] s) (k : AD P G L Q fuel (m.set i true) s') (hr : ADs P G L Q fuel m s r) : ADs P G L Q fuel m s (i :: r)

theorem AD.done {n : Nat} {m : List Bool} {s : St} (hq : Q .normal s) (h : Region.ready .any L.toArray m.toArray = [] := by as_aux_lemma => kernel_rfl) : AD P G L Q n m s := by
  intro E a w hr
  cases n with
  | zero => exact ⟨h, s, hq, hr⟩
  | succ n => exact ⟨fun _ => ⟨s, hq, hr⟩, fun i hi => by rw [h] at hi; cases hi⟩

theorem ADs.at {fuel : Nat} {m : List Bool} {s : St} {rd : List Nat} (h : ADs P G L Q fuel m s rd) {i : Nat} (hi : i ∈ rd) : ∃ o s', L[i]? = some o ∧ AOps P G L.toArray (Ends s') [o] s ∧ AD P G L Q fuel (m.set i true) s' := by
  induction h with
  | nil => cases hi
  | cons s' ho hs k _ ih =>
    rcases List.mem_cons.1 hi with rfl | h
    · exact ⟨_, s', ho, hs, k⟩
    · exact ih h

theorem AD.step {fuel : Nat} {m : List Bool} {s : St} (i0 : Nat) (rd : List Nat) (hs : ADs P G L Q fuel m s (i0 :: rd)) (h : Region.ready .any L.toArray m.toArray = i0 :: rd := by as_aux_lemma => kernel_rfl) : AD P G L Q (fuel + 1) m s := by
  intro E a w hr
  refine ⟨fun hn => (by rw [h] at hn; cases hn), fun i hi => ?_⟩
  rw [h] at hi
  obtain ⟨o, s', ho, h1, h2⟩ := hs.at hi
  have h3 := h1 E a w hr
  have hset : m.toArray.setIfInBounds i true = (m.set i true).toArray := by simp
  have next : ∀ a' w', lift E G (Ends s') .normal a' w' → wpAny P .any L.toArray (lift E G Q) fuel (m.toArray.setIfInBounds i true) a' w' := by
    rintro a' w' ⟨t, ⟨_, rfl⟩, hr'⟩
    rw [hset]
    exact h2 E a' w' hr'
  unfold wpOp
  rw [show L.toArray[i]? = some o from by simpa using ho]
  simp only
  unfold wpList at h3
  split at h3
  · rename_i hw
    rw [if_pos hw]
    have hout : LetsOut (lift E G (Ends s')) → LetsOut (lift E G Q) := by
      rintro ⟨_, _, _, ⟨hn, _⟩, _⟩
      cases hn
    rcases h3 with h3 | ⟨h3, h4⟩
    · refine .inl (wp_conv (fun a' w' hk => next a' w' hk) (fun c a w => ?_) hout h3)
      rintro ⟨_, ⟨hn, _⟩, _⟩
      cases hn
    · exact .inr ⟨h3, hout h4⟩
  · rename_i hw
    rw [if_neg hw]
    exact next _ _ h3

theorem AWp.drawnD {id : Nat} {s : St} (n : Nat) (h : AD P G L Q n (List.replicate n false) s) (hP : P.follows .mixedOrders = true := by as_aux_lemma => kernel_rfl) (hn : Nat.beq L.length n = true := by as_aux_lemma => kernel_rfl) : AWp P G (.region id L.toArray true) Q s := by
  have hn := Nat.eq_of_beq_eq_true hn
  subst hn
  intro E a w hr
  refine wp_region_any hP ?_
  obtain ⟨β, ro, hr⟩ := hr
  have hg := hr.grow (w' := { w with drawn := w.drawn + 1 }) (ro' := ro) rfl rfl rfl (Nat.le_refl _) (fun _ _ => rfl) (fun _ h => h) (fun _ h => .inl h)
  have := h E a _ ⟨β, ro, hg⟩
  simpa using this
/-- The same, from a state that says more. -/
theorem AWp.drawnA {id : Nat} {s s' : St} (n : Nat) (hle : Le s s') (h : AD P G L Q n (List.replicate n false) s') (hP : P.follows .mixedOrders = true := by as_aux_lemma => kernel_rfl) (hn : Nat.beq L.length n = true := by as_aux_lemma => kernel_rfl) : AWp P G (.region id L.toArray true) Q s :=
  AWp.drawnD n (fun E a w hr => h E a w (hle E G a w hr)) hP hn
/-- What a place of the orders gives, named. -/
theorem AWp.cut {id : Nat} {s s0 : St} {fuel : Nat} {m : List Bool} (h : AD P G L Q fuel m s) (k : AD P G L Q fuel m s → AWp P G (.region id L.toArray true) Q s0) : AWp P G (.region id L.toArray true) Q s0 := k h
end
end Go.Av
