/- The AV calculus: calls that are handed own blocks, and give them back changed. Conditions: none. -/
import Derived.Test.YtnnlaccdendkpaaVNa
import Derived.Test.YtnnlaccdendkpaaVMx
import Derived.MapFrom
import Derived.ScopeJumps
import Derived.Laws.BytesString
import Derived.OrdersHeld
namespace Go.Av
open Go

def number : Nat → List AObj → Heap
 | _, [] => []
 | j, o :: r => (j, o) :: number (j + 1) r
theorem hget_number : ∀ (l : List AObj) (j id : Nat), hget (number j l) id = if j ≤ id then l[id - j]? else none
 | [], j, id => by simp [number, hget]
 | o :: r, j, id => by
  simp only [number, hget, hget_number r (j + 1) id]
  by_cases h : j = id
  ·subst h; simp
  ·by_cases h2 : j ≤ id
   ·rw [if_neg h, if_pos h2, if_pos (by omega), show id - j = (id - (j + 1)) + 1 from by omega, List.getElem?_cons_succ]
   ·rw [if_neg h, if_neg h2, if_neg (by omega)]
theorem hget_number0 (l : List AObj) (id : Nat) : hget (number 0 l) id = l[id]? := by rw [hget_number]; simp

def idxOf : List Nat → Nat → Option Nat
 | [], _ => none
 | k :: r, id => if k = id then some 0 else (idxOf r id).map (· + 1)
theorem idxOf_some : ∀ {ids : List Nat} {id j : Nat}, idxOf ids id = some j → ids[j]? = some id
 | [], id, j, h => by cases h
 | k :: r, id, j, h => by
  simp only [idxOf] at h
  split at h
  ·rename_i e
   cases h
   simp [e]
  ·obtain ⟨i, hi, rfl⟩ := Option.map_eq_some_iff.1 h
   rw [List.getElem?_cons_succ]
   exact idxOf_some hi
theorem idxOf_none : ∀ {ids : List Nat} {id : Nat}, idxOf ids id = none → ∀ j : Nat, ids[j]? ≠ some id
 | [], id, _, j => by simp
 | k :: r, id, h, j => by
  simp only [idxOf] at h
  split at h
  ·cases h
  ·rename_i e
   cases j with
   | zero => simp; exact e
   | succ j => rw [List.getElem?_cons_succ]; exact idxOf_none (Option.map_eq_none_iff.1 h) j

def putH (σ : Heap) : List Nat → List AObj → Heap
 | id :: r, o :: l => hset (putH σ r l) id o
 | _, _ => σ
theorem hget_putH (σ : Heap) : ∀ (ids : List Nat) (l : List AObj), l.length = ids.length → ∀ id, hget (putH σ ids l) id = match idxOf ids id with | some j => l[j]? | none => hget σ id
 | [], [], _, id => by simp [putH, idxOf]
 | k :: r, o :: l, h, id => by
  simp only [putH, hget_hset, idxOf]
  by_cases e : k = id
  ·rw [if_pos e, if_pos e]; simp
  ·rw [if_neg e, if_neg e, hget_putH σ r l (by simpa using h) id]
   cases idxOf r id <;> simp
 | [], _ :: _, h, _ => by simp at h
 | _ :: _, [], h, _ => by simp at h

mutual
def renA (ids : List Nat) : AV → AV
 | .rv x => .rv x
 | .agg cs => .agg (renL ids cs)
 | .tuple cs => .tuple (renL ids cs)
 | .ptr id off => match idxOf ids id with
  | some j => .ptr j off
  | none => .top
 | .eptr id i off => match idxOf ids id with
  | some j => .eptr j i off
  | none => .top
 | .sl id => match idxOf ids id with
  | some j => .sl j
  | none => .top
 | .fn f p q => .fn f (renL ids p) (renL ids q)
 | .ref id => match idxOf ids id with
  | some j => .ref j
  | none => .top
 | .top => .top
def renL (ids : List Nat) : List AV → List AV
 | [] => []
 | x :: r => renA ids x :: renL ids r
end
theorem renL_length (ids : List Nat) : ∀ (l : List AV), (renL ids l).length = l.length
 | [] => rfl
 | x :: r => by simp [renL, renL_length ids r]
theorem renL_at (ids : List Nat) : ∀ {l : List AV} {j : Nat} {x : AV}, (renL ids l)[j]? = some x → ∃ y, l[j]? = some y ∧ x = renA ids y
 | [], j, x, h => by simp [renL] at h
 | y :: r, j, x, h => by
  cases j with
  | zero => simp [renL] at h; exact ⟨y, by simp, h.symm⟩
  | succ j => simp [renL] at h; simpa using renL_at ids h

def kindO : AObj → AObj → Bool
 | .box _ _, .box _ _ => true
 | .row _ _ n _, .row _ _ m _ => Nat.beq n m
 | .oth _, .oth _ => true
 | _, _ => false

section
variable {w : World} {ro : Nat → Prop} {σ : Heap} {β : Nat → Value} {N : Nat} {ids : List Nat} {os : List AObj}
abbrev hand (β : Nat → Value) (ids : List Nat) : Nat → Value := fun j => β (ids.getD j 0)
end

def kindsO : List AObj → List AObj → Bool
 | [], [] => true
 | a :: r, b :: t => kindO a b && kindsO r t
 | _, _ => false
theorem kindsO_len : ∀ {l m : List AObj}, kindsO l m = true → l.length = m.length
 | [], [], _ => rfl
 | _ :: r, _ :: t, h => by simp only [kindsO, Bool.and_eq_true] at h; simp [kindsO_len h.2]
 | [], _ :: _, h => by cases h
 | _ :: _, [], h => by cases h
theorem kindsO_at : ∀ {l m : List AObj}, kindsO l m = true → ∀ {j : Nat} {a b : AObj}, l[j]? = some a → m[j]? = some b → kindO a b = true
 | [], [], _, j, a, b, ha, _ => by simp at ha
 | x :: r, y :: t, h, j, a, b, ha, hb => by
  simp only [kindsO, Bool.and_eq_true] at h
  cases j with
  | zero => simp at ha hb; subst ha; subst hb; exact h.1
  | succ j => simp at ha hb; exact kindsO_at h.2 ha hb
 | [], _ :: _, h, _, _, _, _, _ => by cases h
 | _ :: _, [], h, _, _, _, _, _ => by cases h


end Go.Av
namespace Go.Av
open Go

theorem wp_conv {P : Program} {o : Oper} {a : Act} {w : World} {K K' : Act → World → Prop} {Q Q' : Exit → Act → World → Prop} (h : ∀ a w, K a w → K' a w) (hp : ∀ c a w, Q (.panic c) a w → Q' (.panic c) a w) (ho : LetsOut Q → LetsOut Q')
    (hh : o.wp P a w K Q) : o.wp P a w K' Q' := by
  unfold Oper.wp at *
  generalize (execOp a.eval o).run P w = r at *
  cases r with
  | ok n w' =>
    cases n <;> simp only [Oper.upon] at hh ⊢ <;>
      first
        | exact h _ _ hh
        | exact Calls.mono hh (fun e w'' he => by cases e <;> first | exact h _ _ he | exact hp _ _ _ he | exact ho he)
        | exact Rows.mono hh (fun _ _ he => h _ _ he)
  | halt x w' => cases x <;> simp only [Oper.upon] at hh ⊢ <;> first | exact hp _ _ _ hh | exact hh

section
variable {P : Program} {G : Glob} {Q : Exit → St → Prop} {L : List Oper}
def Ends (t : St) : Exit → St → Prop := fun e t' => e = .normal ∧ t' = t
def NQ (Q : Exit → St → Prop) : Exit → St → Prop := fun e s => e = .normal ∧ Q .normal s
def AD (P : Program) (G : Glob) (L : List Oper) (Q : Exit → St → Prop) (fuel : Nat) (m : List Bool) (s : St) : Prop := ∀ E a w, Rel E G s a w → wpAny P .any L.toArray (lift E G (NQ Q)) fuel m.toArray a w
inductive ADs (P : Program) (G : Glob) (L : List Oper) (Q : Exit → St → Prop) (fuel : Nat) (m : List Bool) (s : St) : List Nat → Prop where
 | nil : ADs P G L Q fuel m s []
 | cons {i : Nat} {r : List Nat} {o : Oper} (s' : St) (ho : L[i]? = some o) (hs : AOps P G L.toArray (Ends s') [o] s) (k : AD P G L Q fuel (m.set i true) s') (hr : ADs P G L Q fuel m s r) : ADs P G L Q fuel m s (i :: r)

theorem AD.done {n : Nat} {m : List Bool} {s : St} (hq : Q .normal s) (h : Region.ready .any L.toArray m.toArray = [] := by as_aux_lemma => kernel_rfl) : AD P G L Q n m s := by
 intro E a w hr
 cases n with
 | zero => exact ⟨h, s, ⟨rfl, hq⟩, hr⟩
 | succ n => exact ⟨fun _ => ⟨s, ⟨rfl, hq⟩, hr⟩, fun i hi => by rw [h] at hi; cases hi⟩

theorem ADs.at {fuel : Nat} {m : List Bool} {s : St} {rd : List Nat} (h : ADs P G L Q fuel m s rd) {i : Nat} (hi : i ∈ rd) : ∃ o s', L[i]? = some o ∧ AOps P G L.toArray (Ends s') [o] s ∧ AD P G L Q fuel (m.set i true) s' := by
 induction h with
 | nil => cases hi
 | cons s' ho hs k _ ih =>
  rcases List.mem_cons.1 hi with rfl | h
  ·exact ⟨_, s', ho, hs, k⟩
  ·exact ih h

theorem AD.step {fuel : Nat} {m : List Bool} {s : St} (i0 : Nat) (rd : List Nat) (hs : ADs P G L Q fuel m s (i0 :: rd)) (h : Region.ready .any L.toArray m.toArray = i0 :: rd := by as_aux_lemma => kernel_rfl) : AD P G L Q (fuel + 1) m s := by
 intro E a w hr
 refine ⟨fun hn => (by rw [h] at hn; cases hn), fun i hi => ?_⟩
 rw [h] at hi
 obtain ⟨o, s', ho, h1, h2⟩ := hs.at hi
 have h3 := h1 E a w hr
 have hset : m.toArray.setIfInBounds i true = (m.set i true).toArray := by simp
 have next : ∀ a' w', lift E G (Ends s') .normal a' w' → wpAny P .any L.toArray (lift E G (NQ Q)) fuel (m.toArray.setIfInBounds i true) a' w' := by
  rintro a' w' ⟨t, ⟨_, rfl⟩, hr'⟩
  rw [hset]
  exact h2 E a' w' hr'
 unfold wpOp
 rw [show L.toArray[i]? = some o from by simpa using ho]
 simp only
 unfold wpList at h3
 split at h3
 ·rename_i hw
  rw [if_pos hw]
  have hout : LetsOut (lift E G (Ends s')) → LetsOut (lift E G (NQ Q)) := by
   rintro ⟨_, _, _, ⟨hn, _⟩, _⟩
   cases hn
  rcases h3 with h3 | ⟨h3, h4⟩
  ·refine .inl (wp_conv (fun a' w' hk => next a' w' hk) (fun c a w => ?_) hout h3)
   rintro ⟨_, ⟨hn, _⟩, _⟩
   cases hn
  ·exact .inr ⟨h3, hout h4⟩
 ·rename_i hw
  rw [if_neg hw]
  exact next _ _ h3

def PStep (P : Program) (G : Glob) (ops : Array Oper) (o : Oper) (s s' : St) : Prop := ∀ E a w, Rel E G s a w → ∃ v, Yields P ops o v a ∧ Rel E G s' (a.put o.dst v) w
theorem AD.take {fuel : Nat} {m : List Bool} {s s' : St} (i : Nat) {o : Oper} (ho : L[i]? = some o) (hp : PStep P G L.toArray o s s') (k : AD P G L Q fuel (m.set i true) s') (hs : Region.noSelect L.toArray = true := by as_aux_lemma => kernel_rfl)
    (hf : Region.free .any L.toArray m.toArray i = true := by as_aux_lemma => kernel_rfl) (hr : (Region.ready .any L.toArray m.toArray).contains i = true := by as_aux_lemma => kernel_rfl) : AD P G L Q (fuel + 1) m s := by
  intro E a w hrel
  obtain ⟨v, hv, hrel'⟩ := hp E a w hrel
  refine wpAny_take (oi := o) (v := v) (by simpa using ho) hs hf hr (fun c a w hq => ?_) hv (by simpa using k E _ w hrel')
  obtain ⟨_, ⟨h, _⟩, _⟩ := hq
  cases h
def pval (P : Program) (G : Glob) (o : Oper) (s : St) : Option AV :=
 match o.op with
 | .move x => some (aval G s x)
 | .assign x => some (aval G s x)
 | .fieldAddr t x f => match fldOff P t f, ptrA s.heap (aval G s x) with
  | some k, true => some (shiftP k (aval G s x))
  | _, _ => none
 | .nilCheck x => match ptrA s.heap (aval G s x) with
  | true => some (aval G s x)
  | false => none
 | _ => none
theorem PStep.val {ops : Array Oper} {o : Oper} {s : St} {v : AV} (hv : pval P G o s = some v) (hg : gwant ops s o = some true) : PStep P G ops o s (s.put o.dst v) := by
 intro E a w ⟨β, ro, hr⟩
 have hw := wanted_of (ops := ops) ⟨β, ro, hr⟩ hg
 unfold pval at hv
 split at hv
 ·rename_i x ho
  simp only [Option.some.injEq] at hv
  subst hv
  exact ⟨_, .inl ⟨hw, fun w' => by simp [execOp, ho]⟩, β, ro, hr.put _ _ _ (hr.eval x)⟩
 ·rename_i x ho
  simp only [Option.some.injEq] at hv
  subst hv
  exact ⟨_, .inl ⟨hw, fun w' => by simp [execOp, ho]⟩, β, ro, hr.put _ _ _ (hr.eval x)⟩
 ·rename_i t x f ho
  split at hv
  ·rename_i k hk hc
   simp only [Option.some.injEq] at hv
   subst hv
   obtain ⟨ad, he, hrel⟩ := ptrA_rel hc (hr.eval x)
   exact ⟨_, .inl ⟨hw, fun w' => by simp [execOp, ho, he, fldOff_run hk]⟩, β, ro, hr.put _ _ _ (hrel k)⟩
  ·cases hv
 ·rename_i x ho
  split at hv
  ·rename_i hc
   simp only [Option.some.injEq] at hv
   subst hv
   obtain ⟨ad, he, hrel⟩ := ptrA_rel hc (hr.eval x)
   exact ⟨_, .inl ⟨hw, fun w' => by simp [execOp, ho, he]⟩, β, ro, hr.put _ _ _ (he ▸ hr.eval x)⟩
  ·cases hv
 ·cases hv
theorem PStep.skip {ops : Array Oper} {o : Oper} {s : St} (hg : gwant ops s o = some false) : PStep P G ops o s (s.put o.dst (.tuple [])) := by
 intro E a w hr
 have hw := wanted_of (ops := ops) hr hg
 exact ⟨undef, .inr ⟨hw, rfl⟩, hr.putUndef o.dst⟩
def pstate (P : Program) (G : Glob) (ops : Array Oper) (o : Oper) (s : St) : Option St :=
 match gwant ops s o with
 | some true => (pval P G o s).map fun v => s.put o.dst v
 | some false => some (s.put o.dst (.tuple []))
 | none => none
theorem pstate_sound {ops : Array Oper} {o : Oper} {s s' : St} (h : pstate P G ops o s = some s') : PStep P G ops o s s' := by
 unfold pstate at h
 split at h
 ·rename_i hg
  cases hv : pval P G o s with
  | none => rw [hv] at h; cases h
  | some v =>
   rw [hv] at h
   simp only [Option.map_some, Option.some.injEq] at h
   subst h
   exact .val hv hg
 ·rename_i hg
  simp only [Option.some.injEq] at h
  subst h
  exact .skip hg
 ·cases h
theorem AD.tk {fuel : Nat} {m : List Bool} {s : St} (i n : Nat) (l : List (Nat × AV)) (h : Heap) (N : Nat) (k : AD P G L Q fuel (m.set i true) (Z n l h N))
    (hp : ((L[i]?).bind fun o => pstate P G L.toArray o s).map (fun s' => (vw l h s', s'.next)) = some (vz l h n, N) := by as_aux_lemma => kernel_rfl) (hs : Region.noSelect L.toArray = true := by as_aux_lemma => kernel_rfl)
    (hf : Region.free .any L.toArray m.toArray i = true := by as_aux_lemma => kernel_rfl) (hr : (Region.ready .any L.toArray m.toArray).contains i = true := by as_aux_lemma => kernel_rfl) : AD P G L Q (fuel + 1) m s := by
  cases ho : L[i]? with
  | none => rw [ho] at hp; cases hp
  | some o =>
    rw [ho] at hp
    simp only [Option.bind_some] at hp
    cases hs' : pstate P G L.toArray o s with
    | none => rw [hs'] at hp; cases hp
    | some s' =>
      rw [hs'] at hp
      simp only [Option.map_some, Option.some.injEq, Prod.mk.injEq] at hp
      refine AD.take i ho (pstate_sound hs') (fun E a w hr => ?_) hs hf hr
      exact k E a w (le_vw hp.1 (Nat.le_of_eq hp.2) E G a w hr)
theorem wpAny_conv {ops : Array Oper} {Q Q' : Exit → Act → World → Prop} (hn : ∀ a w, Q .normal a w → Q' .normal a w) (hp : ∀ c a w, Q (.panic c) a w → Q' (.panic c) a w) (ho : LetsOut Q → LetsOut Q') :
    ∀ (fuel : Nat) (m : Array Bool) (a : Act) (w : World), wpAny P .any ops Q fuel m a w → wpAny P .any ops Q' fuel m a w
  | 0, m, a, w, h => ⟨h.1, hn _ _ h.2⟩
  | fuel + 1, m, a, w, h => by
    refine ⟨fun hr => hn _ _ (h.1 hr), fun i hi => ?_⟩
    have h2 := h.2 i hi
    unfold wpOp at h2 ⊢
    split at h2
    · exact wpAny_conv hn hp ho fuel _ _ _ h2
    · rename_i o _
      by_cases hw : Region.wanted o (yielded ops a.tmps) = true
      · rw [if_pos hw] at h2 ⊢
        rcases h2 with h2 | ⟨h2, h3⟩
        · exact .inl (wp_conv (fun a' w' hk => wpAny_conv hn hp ho fuel _ _ _ hk) hp ho h2)
        · exact .inr ⟨h2, ho h3⟩
      · rw [if_neg hw] at h2 ⊢
        exact wpAny_conv hn hp ho fuel _ _ _ h2
theorem AWp.drawnD {id : Nat} {s : St} (n : Nat) (h : AD P G L Q n (List.replicate n false) s) (hP : P.follows .mixedOrders = true := by as_aux_lemma => kernel_rfl) (hn : Nat.beq L.length n = true := by as_aux_lemma => kernel_rfl) : AWp P G (.region id L.toArray true) Q s := by
 have hn := Nat.eq_of_beq_eq_true hn
 subst hn
 intro E a w hr
 refine wp_region_any hP (wpAny_conv (Q := lift E G (NQ Q)) (fun a w ⟨t, ⟨_, h1⟩, h2⟩ => ⟨t, h1, h2⟩) (fun c a w ⟨_, ⟨hn, _⟩, _⟩ => by cases hn) (by rintro ⟨_, _, _, ⟨hn, _⟩, _⟩; cases hn) _ _ _ _ ?_)
 obtain ⟨β, ro, hr⟩ := hr
 have hg := hr.grow (w' := { w with drawn := w.drawn + 1 }) (ro' := ro) rfl rfl rfl (Nat.le_refl _) (fun _ _ => rfl) (fun _ h => h) (fun _ h => .inl h)
 have := h E a _ ⟨β, ro, hg⟩
 simpa using this
theorem AWp.drawnA {id : Nat} {s s' : St} (n : Nat) (hle : Le s s') (h : AD P G L Q n (List.replicate n false) s') (hP : P.follows .mixedOrders = true := by as_aux_lemma => kernel_rfl) (hn : Nat.beq L.length n = true := by as_aux_lemma => kernel_rfl) : AWp P G (.region id L.toArray true) Q s :=
 AWp.drawnD n (fun E a w hr => h E a w (hle E G a w hr)) hP hn
theorem AWp.cut {id : Nat} {s s0 : St} {fuel : Nat} {m : List Bool} (h : AD P G L Q fuel m s) (k : AD P G L Q fuel m s → AWp P G (.region id L.toArray true) Q s0) : AWp P G (.region id L.toArray true) Q s0 := k h
end
end Go.Av
namespace Go.Av
open Go

def callOf (o : Oper) : Option (Operand × List Operand) :=
 match o.op with
 | .call c => match c.callee with
  | .value x => some (x, c.args.toList)
  | _ => none
 | _ => none
def nodupB : List Nat → Bool
 | [] => true
 | k :: r => !(r.any (Nat.beq k)) && nodupB r
theorem nodupB_spec : ∀ {l : List Nat}, nodupB l = true → l.Nodup
 | [], _ => List.nodup_nil
 | k :: r, h => by
  simp only [nodupB, Bool.and_eq_true, Bool.not_eq_true'] at h
  refine List.nodup_cons.2 ⟨fun hk => ?_, nodupB_spec h.2⟩
  have := List.any_eq_true.2 ⟨k, hk, Nat.beq_refl k⟩
  rw [h.1] at this
  cases this

end Go.Av
namespace Go.Av
open Go Go.MapKept

def ValIs (R : RV → Value → Prop) (agg : Bool) (cs : List RV) (v : Value) : Prop :=
 match agg with
 | true => ∃ c : Array Value, v = .agg c ∧ c.size = cs.length ∧ ∀ i x, cs[i]? = some x → R x (c.getD i undef)
 | false => ∃ x, cs = [x] ∧ R x v
theorem ValIs.mono {R R' : RV → Value → Prop} {agg : Bool} {cs : List RV} {v : Value} (h : ValIs R agg cs v) (hR : ∀ x c, R x c → R' x c) : ValIs R' agg cs v := by
 cases agg with
 | true => obtain ⟨c, h1, h2, h3⟩ := h; exact ⟨c, h1, h2, fun i x hi => hR _ _ (h3 i x hi)⟩
 | false => obtain ⟨x, h1, h2⟩ := h; exact ⟨x, h1, hR _ _ h2⟩
def mapR (agg : Bool) (kvs : List (Value × List RV)) : RV := .mp agg (kvs.map (·.1)) (kvs.map (·.2))
def mapIt (agg : Bool) (kvs : List (Value × List RV)) : Oth where
 holds R v o := (∃ r, v = .map (some r)) ∧ ∃ (es : Array MapEntry) (clock : Nat), o = .map es clock ∧ es.size = kvs.length ∧ (kvs.map (·.1)).Nodup ∧ ∀ (j : Nat) (k : Value) (cs : List RV), kvs[j]? = some (k, cs) → ∃ e : MapEntry, es[j]? = some e ∧ e.key = k ∧ ValIs R agg cs e.val
 mono R R' v o h hh := by
  obtain ⟨h1, es, clock, h2, h3, h4, h5⟩ := hh
  refine ⟨h1, es, clock, h2, h3, h4, fun j k cs hj => ?_⟩
  obtain ⟨e, e1, e2, e3⟩ := h5 j k cs hj
  exact ⟨e, e1, e2, e3.mono h⟩
 view := some (mapR agg kvs)
 viewOk rv hrv w ro ro' v o b h hb hw hr hr' := by
  simp only [Option.some.injEq] at hrv
  subst hrv
  obtain ⟨⟨r, rfl⟩, es, clock, rfl, h3, h4, h5⟩ := h
  simp only [blk, Option.some.injEq] at hb
  subst hb
  have at_ : ∀ {j : Nat} {cs : List RV}, (kvs.map (·.2))[j]? = some cs → ∃ k e, kvs[j]? = some (k, cs) ∧ es[j]? = some e ∧ e.key = k ∧ ValIs (RRel w ro) agg cs e.val := by
   intro j cs hj
   rw [List.getElem?_map] at hj
   obtain ⟨⟨k, cs'⟩, hk, rfl⟩ := Option.map_eq_some_iff.1 hj
   obtain ⟨e, e1, e2, e3⟩ := h5 j k cs' hk
   exact ⟨k, e, hk, e1, e2, e3⟩
  refine .mp agg _ _ r es clock (fun j i => match agg with
   | true => match es[j]? with
    | some e => match e.val with
     | .agg c => c.getD i undef
     | _ => undef
    | none => undef
   | false => match es[j]? with
    | some e => e.val
    | none => undef) hr' hw (by simpa using h3) (by simp) h4 (fun j k cs hk hv => ?_) (fun j cs i x hv hx => ?_)
  ·obtain ⟨k', e, g1, g2, g3, g4⟩ := at_ hv
   rw [List.getElem?_map, g1] at hk
   simp only [Option.map_some, Option.some.injEq] at hk
   refine ⟨e, g2, g3.trans hk, ?_⟩
   cases agg with
   | true =>
    obtain ⟨c, q1, q2, q3⟩ := g4
    exact ⟨c, q1, q2, fun i _ => by simp [g2, q1]⟩
   | false =>
    obtain ⟨x, rfl, q2⟩ := g4
    exact ⟨rfl, by simp [g2]⟩
  ·obtain ⟨k', e, g1, g2, g3, g4⟩ := at_ hv
   have up : ∀ x c, RRel w ro x c → RRel w ro' x c := fun x c h => h.keep (fun _ _ => rfl) hr
   cases agg with
   | true =>
    obtain ⟨c, q1, q2, q3⟩ := g4
    have := up _ _ (q3 i x hx)
    simpa [g2, q1] using this
   | false =>
    obtain ⟨y, rfl, q2⟩ := g4
    cases i with
    | zero =>
     simp only [List.getElem?_cons_zero, Option.some.injEq] at hx
     subst hx
     simpa [g2] using up _ _ q2
    | succ i => simp at hx
def KeysOk (d : TypeDesc) (kvs : List (Value × List RV)) : Prop := ∀ p ∈ kvs, IsKey d p.1

section
variable {P : Program} {G : Glob} {o : Oper} {s : St}
theorem R_makeMap (agg : Bool) (t : TypeId) (ho : o.op = .makeMap t none) (hb : s.base ≤ s.next) :
    OpStep P G o s ({ s with heap := (s.next, .oth (mapIt agg [])) :: s.heap, next := s.next + 1 }.put o.dst (.ref s.next)) := by
  intro E a w ⟨β, ro, hr⟩ K Q hK
  unfold Oper.wp
  simp only [execOp, ho, Instr.makeMap, Option.map_none, Sem.run_bind, Sem.run_pure, Result.andThen_ok, run_newObj]
  have hnone : hget s.heap s.next = none := by
    cases hg : hget s.heap s.next with
    | none => rfl
    | some p => have := hr.trans.new _ _ hg; omega
  have hnew := hr.new (w' := w.alloc (.map #[] 0)) s.next hnone hb (Nat.le_refl _) (.oth (mapIt agg [])) (.map (some w.heap.size)) rfl rfl rfl (by simp) (fun b hb => Go.RowKit.Below.heap_alloc w _ b hb) (fun b hb => by simp [blk] at hb; omega) rfl
    (.oth _ w.heap.size (.map #[] 0) (by rw [upd_same]; rfl) (heap_alloc_new w _) ⟨⟨_, upd_same _ _ _⟩, #[], 0, rfl, rfl, by simp, fun j k cs hj => by simp at hj⟩)
  exact hK _ _ ⟨_, ro, hnew.put o.dst (.ref s.next) (.map (some w.heap.size)) (.ref _ _ (Nat.lt_succ_self _) fun Φ _ => (upd_same _ _ _).symm)⟩

theorem map_of {E : Entry} {a : Act} {w : World} {β : Nat → Value} {ro : Nat → Prop} (hr : RelAt E G s a w β ro) {x : Operand} {id : Nat} (hx : aval G s x = .ref id) {agg : Bool} {kvs : List (Value × List RV)} (hid : hget s.heap id = some (.oth (mapIt agg kvs))) :
    ∃ (r : Nat) (es : Array MapEntry) (clock : Nat), a.eval x = .map (some r) ∧ β id = .map (some r) ∧ w.heap[r]? = some (.map es clock) ∧ es.size = kvs.length ∧ (kvs.map (·.1)).Nodup ∧ ∀ (j : Nat) (k : Value) (cs : List RV), kvs[j]? = some (k, cs) → ∃ e : MapEntry, es[j]? = some e ∧ e.key = k ∧ ValIs (RRel w ro) agg cs e.val := by
  have hO := hr.heap.objs id _ hid
  cases hO with
  | oth _ bl ob h1 h2 h3 =>
    obtain ⟨⟨r, hb'⟩, es, clock, rfl, h4, h5, h6⟩ := h3
    have hev := hr.eval x
    rw [hx] at hev
    generalize he : a.eval x = c at hev
    cases hev with
    | ref _ _ _ hc =>
      have hcv := hc _ hid
      rw [hb'] at h1 hcv
      simp only [blk, Option.some.injEq] at h1
      subst h1
      exact ⟨r, es, clock, hcv, hb', h2, h4, h5, h6⟩

def MapAt (G : Glob) (s : St) (m : Operand) (agg : Bool) (kvs : List (Value × List RV)) : Prop := ∀ E a w β ro, RelAt E G s a w β ro → ∃ (r : Nat) (es : Array MapEntry) (clock : Nat), a.eval m = .map (some r) ∧ w.heap[r]? = some (.map es clock) ∧ es.size = kvs.length ∧ (kvs.map (·.1)).Nodup ∧ ∀ (j : Nat) (k : Value) (cs : List RV), kvs[j]? = some (k, cs) → ∃ e : MapEntry, es[j]? = some e ∧ e.key = k ∧ ValIs (RRel w ro) agg cs e.val
theorem MapAt.own {m : Operand} {id : Nat} {agg : Bool} {kvs : List (Value × List RV)} (hm : aval G s m = .ref id) (hid : hget s.heap id = some (.oth (mapIt agg kvs))) : MapAt G s m agg kvs := fun _ _ _ _ _ hr => by
 obtain ⟨r, es, clock, h1, _, h3, h4, h5, h6⟩ := map_of hr hm hid
 exact ⟨r, es, clock, h1, h3, h4, h5, h6⟩
theorem MapAt.imm {m : Operand} {agg : Bool} {kvs : List (Value × List RV)} (hm : aval G s m = .rv (mapR agg kvs)) : MapAt G s m agg kvs := fun _ a w β ro hr => by
 have hev := hr.eval m
 rw [hm] at hev
 generalize he : a.eval m = c at hev
 cases hev with
 | rv _ _ hx =>
  cases hx with
  | mp _ _ _ r es clock p h1 h2 h3 h4 h5 h6 h7 =>
   refine ⟨r, es, clock, rfl, h2, by simpa using h3, h5, fun j k cs hj => ?_⟩
   have hv : (kvs.map (·.2))[j]? = some cs := by simp [hj]
   obtain ⟨e, e1, e2, e3⟩ := h6 j k cs (by simp [hj]) hv
   refine ⟨e, e1, e2, ?_⟩
   cases agg with
   | true =>
    obtain ⟨c, q1, q2, q3⟩ := e3
    refine ⟨c, q1, q2, fun i x hi => ?_⟩
    rw [q3 i (List.getElem?_eq_some_iff.1 hi).1]
    exact h7 j cs i x hv hi
   | false =>
    obtain ⟨q1, q2⟩ := e3
    match cs, q1, hv with
    | [x], _, hv => exact ⟨x, rfl, by rw [q2]; exact h7 j [x] 0 x hv rfl⟩

def valAV (agg : Bool) (cs : List RV) (v : AV) : Prop :=
 match agg with
 | true => v = .agg (cs.map .rv)
 | false => ∃ x, cs = [x] ∧ v = .rv x
theorem valAV_is {w : World} {ro : Nat → Prop} {σ : Heap} {β : Nat → Value} {N : Nat} {agg : Bool} {cs : List RV} {v : AV} {c : Value} (hv : valAV agg cs v) (h : ARel w ro σ β N v c) : ValIs (RRel w ro) agg cs c := by
 cases agg with
 | true =>
  simp only [valAV] at hv
  subst hv
  cases h with
  | agg _ c h1 h2 =>
   refine ⟨c, rfl, by simpa using h1, fun i x hi => ?_⟩
   have := h2 i (.rv x) (by rw [List.getElem?_map, hi]; rfl)
   cases this with
   | rv _ _ h3 => exact h3
 | false =>
  obtain ⟨x, rfl, rfl⟩ := hv
  cases h with
  | rv _ _ h3 => exact ⟨x, rfl, h3⟩
theorem keys_of {es : Array MapEntry} {kvs : List (Value × List RV)} {R : RV → Value → Prop} {agg : Bool} {d : TypeDesc} (hl : es.size = kvs.length) (h : ∀ (j : Nat) (k : Value) (cs : List RV), kvs[j]? = some (k, cs) → ∃ e : MapEntry, es[j]? = some e ∧ e.key = k ∧ ValIs R agg cs e.val) (hk : KeysOk d kvs) :
    ∀ x ∈ es.toList, IsKey d x.key := by
  intro x hx
  obtain ⟨j, hj, rfl⟩ := List.mem_iff_getElem.1 hx
  have hjl : j < kvs.length := by rw [← hl]; simpa using hj
  have h1 : kvs[j]? = some (kvs[j].1, kvs[j].2) := List.getElem?_eq_getElem hjl
  obtain ⟨e, h2, h3, _⟩ := h j _ _ h1
  have h4 : es.toList[j] = e := by
    have : es.toList[j]? = some e := by simpa using h2
    rw [List.getElem?_eq_getElem hj] at this
    exact Option.some.inj this
  rw [h4, h3]
  exact hk _ (List.getElem_mem hjl)

theorem R_mapPut_new {t kt et : TypeId} {d : TypeDesc} (m x v : Operand) (ho : o.op = .mapUpdate t m x v) (ht : P.underlying t = some (.map kt et)) (hd : P.underlying kt = some d) {id : Nat} (hm : aval G s m = .ref id) {agg : Bool} {kvs : List (Value × List RV)}
    (hid : hget s.heap id = some (.oth (mapIt agg kvs))) {k : Value} (hx : aval G s x = .rv (.v k)) (hkey : IsKey d k) (hks : KeysOk d kvs) {cs : List RV} (hv : valAV agg cs (aval G s v)) (hno : ∀ p ∈ kvs, p.1 ≠ k) :
    OpStep P G o s ({ s with heap := hset s.heap id (.oth (mapIt agg (kvs ++ [(k, cs)]))) }.put o.dst .top) := by
  intro E a w ⟨β, ro, hr⟩ K Q hK
  obtain ⟨r, es, clock, h1, h2, h3, h4, h5, h6⟩ := map_of hr hm hid
  have hxe := hr.evalV hx
  have hve := valAV_is hv (hr.eval v)
  have hfind : Instr.findNow d k es.toList 0 = some none := by
    rcases findNow_spec hkey es.toList 0 (keys_of h4 h6 hks) with ⟨g1, _⟩ | ⟨j, e, _, g2, g3⟩
    · exact g1
    · exfalso
      have hj : es[j]? = some e := by simpa using g2
      have hjl : j < kvs.length := by rw [← h4]; exact (Array.getElem?_eq_some_iff.1 hj).1
      obtain ⟨e', g4, g5, _⟩ := h6 j kvs[j].1 kvs[j].2 (List.getElem?_eq_getElem hjl)
      rw [hj] at g4
      cases g4
      exact hno _ (List.getElem_mem hjl) (g5.symm.trans g3)
  unfold Oper.wp
  have hrun : (execOp a.eval o).run P w = .ok .skip { w with heap := w.heap.setIfInBounds r (.map (es.push { key := k, val := a.eval v, born := clock }) (clock + 1)) } := by
    simp [execOp, ho, h1, hxe, Instr.mapUpdate, run_underlying ht, MapKept.run_getObj_map h3, run_checkKey hd hkey, run_findKey hd hfind, MapKept.run_setObj_map _ h3, Result.andThen]
  rw [hrun]
  have hlt := (Array.getElem?_eq_some_iff.1 h3).1
  have hroW : ∀ b, ro b → b ≠ r := fun b hb e => hr.heap.disj b hb ⟨id, _, hid, rfl, by rw [h2, e]; rfl⟩
  have hw := hr.write (w' := { w with heap := w.heap.setIfInBounds r (.map (es.push { key := k, val := a.eval v, born := clock }) (clock + 1)) }) id _ (.oth (mapIt agg (kvs ++ [(k, cs)]))) hid rfl rfl (.inr (.inr ⟨_, _, rfl, rfl⟩)) rfl rfl rfl (by simp)
    (fun j hj hne => by
      have : r ≠ j := fun e => hne (by rw [h2, ← e]; rfl)
      simp [Array.getElem?_setIfInBounds_ne this])
    (.oth _ r (.map (es.push { key := k, val := a.eval v, born := clock }) (clock + 1)) (by rw [h2]; rfl) (by simp [hlt]) ⟨⟨r, h2⟩, _, _, rfl, by simp [h4], by
      rw [List.map_append, List.nodup_append]
      refine ⟨h5, by simp, fun y hy z hz => ?_⟩
      simp only [List.map_cons, List.map_nil, List.mem_singleton] at hz
      subst hz
      obtain ⟨p, hp, rfl⟩ := List.mem_map.1 hy
      exact hno p hp, fun j k' cs' hj => by
      have hkeep : ∀ y c, RRel w ro y c → RRel { w with heap := w.heap.setIfInBounds r (.map (es.push { key := k, val := a.eval v, born := clock }) (clock + 1)) } ro y c := fun y c hy =>
        hy.keep (fun b hb => by have := hroW b hb; simp [Array.getElem?_setIfInBounds_ne (Ne.symm this)]) fun _ h => h
      rcases Nat.lt_or_ge j kvs.length with hjl | hjl
      · rw [List.getElem?_append_left hjl] at hj
        obtain ⟨e, g1, g2, g3⟩ := h6 j k' cs' hj
        exact ⟨e, by rw [Array.getElem?_push_lt (by omega)]; rw [Array.getElem?_eq_getElem (by omega)] at g1; exact g1, g2, g3.mono hkeep⟩
      · rw [List.getElem?_append_right hjl] at hj
        have hj0 : j - kvs.length = 0 := by
          have := (List.getElem?_eq_some_iff.1 hj).1
          simp at this
          omega
        rw [hj0] at hj
        simp only [List.getElem?_cons_zero, Option.some.injEq, Prod.mk.injEq] at hj
        obtain ⟨rfl, rfl⟩ := hj
        exact ⟨_, by rw [show j = es.size from by omega]; exact Array.getElem?_push_size, rfl, hve.mono hkeep⟩⟩)
  exact hK _ _ ⟨β, ro, hw.put o.dst _ _ (.top _)⟩

theorem find_none {es : Array MapEntry} {kvs : List (Value × List RV)} {R : RV → Value → Prop} {agg : Bool} {d : TypeDesc} {k : Value} (hl : es.size = kvs.length) (h : ∀ (j : Nat) (k : Value) (cs : List RV), kvs[j]? = some (k, cs) → ∃ e : MapEntry, es[j]? = some e ∧ e.key = k ∧ ValIs R agg cs e.val) (hks : KeysOk d kvs)
    (hkey : IsKey d k) (hno : ∀ p ∈ kvs, p.1 ≠ k) : Instr.findNow d k es.toList 0 = some none := by
  rcases findNow_spec hkey es.toList 0 (keys_of hl h hks) with ⟨g1, _⟩ | ⟨j, e, _, g2, g3⟩
  · exact g1
  · exfalso
    have hj : es[j]? = some e := by simpa using g2
    have hjl : j < kvs.length := by rw [← hl]; exact (Array.getElem?_eq_some_iff.1 hj).1
    obtain ⟨e', g4, g5, _⟩ := h j kvs[j].1 kvs[j].2 (List.getElem?_eq_getElem hjl)
    rw [hj] at g4
    cases g4
    exact hno _ (List.getElem_mem hjl) (g5.symm.trans g3)
theorem find_some {es : Array MapEntry} {kvs : List (Value × List RV)} {R : RV → Value → Prop} {agg : Bool} {d : TypeDesc} {k : Value} {i : Nat} {cs : List RV} (hl : es.size = kvs.length) (hnd : (kvs.map (·.1)).Nodup) (h : ∀ (j : Nat) (k : Value) (cs : List RV), kvs[j]? = some (k, cs) → ∃ e : MapEntry, es[j]? = some e ∧ e.key = k ∧ ValIs R agg cs e.val) (hks : KeysOk d kvs)
    (hkey : IsKey d k) (hi : kvs[i]? = some (k, cs)) : ∃ e : MapEntry, Instr.findNow d k es.toList 0 = some (some (i, e.val)) ∧ es[i]? = some e ∧ e.key = k ∧ ValIs R agg cs e.val := by
  obtain ⟨e0, q1, q2, q3⟩ := h i k cs hi
  rcases findNow_spec hkey es.toList 0 (keys_of hl h hks) with ⟨_, g1⟩ | ⟨j, e, g1, g2, g3⟩
  · exact absurd q2 (g1 e0 (List.mem_of_getElem? (i := i) (by simpa using q1)))
  · have hj : es[j]? = some e := by simpa using g2
    have hjl : j < kvs.length := by rw [← hl]; exact (Array.getElem?_eq_some_iff.1 hj).1
    obtain ⟨e', g4, g5, _⟩ := h j kvs[j].1 kvs[j].2 (List.getElem?_eq_getElem hjl)
    rw [hj] at g4
    cases g4
    have hij : i = j := by
      have h1 : (kvs.map (·.1))[i]? = some k := by rw [List.getElem?_map, hi]; rfl
      have h2 : (kvs.map (·.1))[j]? = some k := by rw [List.getElem?_map, List.getElem?_eq_getElem hjl]; simp [← g3, g5]
      exact (List.getElem?_inj (List.getElem?_eq_some_iff.1 h1).1 hnd).1 (h1.trans h2.symm)
    subst hij
    rw [hj] at q1
    cases q1
    exact ⟨_, by rw [Nat.zero_add] at g1; exact g1, hj, g3, q3⟩

theorem R_mapPut_old {t kt et : TypeId} {d : TypeDesc} (m x v : Operand) (ho : o.op = .mapUpdate t m x v) (ht : P.underlying t = some (.map kt et)) (hd : P.underlying kt = some d) {id : Nat} (hm : aval G s m = .ref id) {agg : Bool} {kvs : List (Value × List RV)}
    (hid : hget s.heap id = some (.oth (mapIt agg kvs))) {k : Value} (hx : aval G s x = .rv (.v k)) (hkey : IsKey d k) (hks : KeysOk d kvs) {cs cs0 : List RV} (hv : valAV agg cs (aval G s v)) {i : Nat} (hi : kvs[i]? = some (k, cs0)) :
    OpStep P G o s ({ s with heap := hset s.heap id (.oth (mapIt agg (kvs.set i (k, cs)))) }.put o.dst .top) := by
  intro E a w ⟨β, ro, hr⟩ K Q hK
  obtain ⟨r, es, clock, h1, h2, h3, h4, h5, h6⟩ := map_of hr hm hid
  have hxe := hr.evalV hx
  have hve := valAV_is hv (hr.eval v)
  obtain ⟨e0, hfind, he0, hek, _⟩ := find_some h4 h5 h6 hks hkey hi
  unfold Oper.wp
  have hrun : (execOp a.eval o).run P w = .ok .skip { w with heap := w.heap.setIfInBounds r (.map (es.modify i fun e => { e with key := k, val := a.eval v }) clock) } := by
    simp [execOp, ho, h1, hxe, Instr.mapUpdate, run_underlying ht, MapKept.run_getObj_map h3, run_checkKey hd hkey, run_findKey hd hfind, he0, hek, run_keyThatStays hkey, MapKept.run_setObj_map _ h3, Result.andThen]
  rw [hrun]
  have hlt := (Array.getElem?_eq_some_iff.1 h3).1
  have hroW : ∀ b, ro b → b ≠ r := fun b hb e => hr.heap.disj b hb ⟨id, _, hid, rfl, by rw [h2, e]; rfl⟩
  have hw := hr.write (w' := { w with heap := w.heap.setIfInBounds r (.map (es.modify i fun e => { e with key := k, val := a.eval v }) clock) }) id _ (.oth (mapIt agg (kvs.set i (k, cs)))) hid rfl rfl (.inr (.inr ⟨_, _, rfl, rfl⟩)) rfl rfl rfl (by simp)
    (fun j hj hne => by
      have : r ≠ j := fun e => hne (by rw [h2, ← e]; rfl)
      simp [Array.getElem?_setIfInBounds_ne this])
    (.oth _ r (.map (es.modify i fun e => { e with key := k, val := a.eval v }) clock) (by rw [h2]; rfl) (by simp [hlt]) ⟨⟨r, h2⟩, _, _, rfl, by simp [h4], by
      have : (kvs.set i (k, cs)).map (·.1) = kvs.map (·.1) := by
        apply List.ext_getElem?
        intro j
        rw [List.getElem?_map, List.getElem?_map, List.getElem?_set]
        split
        · rename_i e
          subst e
          rw [if_pos (List.getElem?_eq_some_iff.1 hi).1, hi]
          rfl
        · rfl
      rw [this]
      exact h5, fun j k' cs' hj => by
      have hkeep : ∀ y c, RRel w ro y c → RRel { w with heap := w.heap.setIfInBounds r (.map (es.modify i fun e => { e with key := k, val := a.eval v }) clock) } ro y c := fun y c hy =>
        hy.keep (fun b hb => by have := hroW b hb; simp [Array.getElem?_setIfInBounds_ne (Ne.symm this)]) fun _ h => h
      rw [List.getElem?_set] at hj
      by_cases e : i = j
      · subst e
        rw [if_pos rfl, if_pos (List.getElem?_eq_some_iff.1 hi).1] at hj
        simp only [Option.some.injEq, Prod.mk.injEq] at hj
        obtain ⟨rfl, rfl⟩ := hj
        exact ⟨{ e0 with key := k, val := a.eval v }, by simp [Array.getElem?_modify, he0], rfl, hve.mono hkeep⟩
      · rw [if_neg e] at hj
        obtain ⟨e1, g1, g2, g3⟩ := h6 j k' cs' hj
        exact ⟨e1, by rw [Array.getElem?_modify, if_neg e]; exact g1, g2, g3.mono hkeep⟩⟩)
  exact hK _ _ ⟨β, ro, hw.put o.dst _ _ (.top _)⟩

def lookR (c : Bool) (v : AV) (b : Bool) : AV :=
 match c with
 | true => .tuple [v, .rv (.v (.bool b))]
 | false => v
def getAV (agg : Bool) (cs : List RV) : AV :=
 match agg, cs with
 | true, _ => .agg (cs.map .rv)
 | false, [x] => .rv x
 | false, _ => .top
theorem getAV_rel {w : World} {ro : Nat → Prop} {σ : Heap} {β : Nat → Value} {N : Nat} {agg : Bool} {cs : List RV} {c : Value} (h : ValIs (RRel w ro) agg cs c) : ARel w ro σ β N (getAV agg cs) c := by
 cases agg with
 | true =>
  obtain ⟨arr, rfl, h1, h2⟩ := h
  refine .agg _ arr (by simpa using h1) fun j x hj => ?_
  rw [List.getElem?_map] at hj
  obtain ⟨y, hy, rfl⟩ := Option.map_eq_some_iff.1 hj
  exact .rv _ _ (h2 j y hy)
 | false =>
  obtain ⟨x, rfl, h1⟩ := h
  exact .rv _ _ h1
theorem R_mapGet {t kt et : TypeId} {d : TypeDesc} (c : Bool) (m x : Operand) (ho : o.op = .lookup t m x c) (ht : P.underlying t = some (.map kt et)) (hd : P.underlying kt = some d) {agg : Bool} {kvs : List (Value × List RV)} (hM : MapAt G s m agg kvs)
    {k : Value} (hx : aval G s x = .rv (.v k)) (hkey : IsKey d k) (hks : KeysOk d kvs) {cs : List RV} {i : Nat} (hi : kvs[i]? = some (k, cs)) :
    VStep P G o s (lookR c (getAV agg cs) true) := fun E a w β ro hr => by
  obtain ⟨r, es, clock, h1, h3, h4, h5, h6⟩ := hM E a w β ro hr
  have hxe := hr.evalV hx
  obtain ⟨e0, hfind, he0, hek, hv⟩ := find_some h4 h5 h6 hks hkey hi
  refine ⟨match c with | true => .tuple #[e0.val, .bool true] | false => e0.val, ?_, ?_⟩
  · cases c <;> simp [execOp, ho, h1, hxe, Instr.lookup, run_underlying ht, MapKept.run_getObj_map h3, run_checkKey hd hkey, run_findKey hd hfind, Result.andThen]
  · cases c with
    | false => exact getAV_rel hv
    | true =>
      refine .tuple _ _ rfl fun j y hj => ?_
      match j, hj with
      | 0, hj => simp at hj; subst hj; exact getAV_rel hv
      | 1, hj => simp at hj; subst hj; exact .ofV rfl
      | j + 2, hj => simp at hj
def zAV : Value → AV
 | .agg c => .agg (c.toList.map fun v => .rv (.v v))
 | v => .rv (.v v)
def zOk : Value → Bool
 | .agg c => c.toList.all (·.oneCell')
 | v => v.oneCell'
theorem zAV_rel {w : World} {ro : Nat → Prop} {σ : Heap} {β : Nat → Value} {N : Nat} {z : Value} (h : zOk z = true) : ARel w ro σ β N (zAV z) z := by
 unfold zOk at h
 unfold zAV
 split
 ·rename_i c
  refine .agg _ c (by simp) fun j x hj => ?_
  rw [List.getElem?_map] at hj
  obtain ⟨v, hv, rfl⟩ := Option.map_eq_some_iff.1 hj
  have hv' : c[j]? = some v := by simpa using hv
  rw [Array.getD_eq_getD_getElem?, hv']
  exact .rv _ _ (.v _ (List.all_eq_true.1 h v (List.mem_of_getElem? hv)))
 ·rename_i hne
  refine .rv _ _ (.v _ ?_)
  split at h
  ·rename_i c
   exact absurd rfl (hne c)
  ·exact h
theorem R_mapGet_none {t kt et : TypeId} {d : TypeDesc} (c : Bool) (m x : Operand) (ho : o.op = .lookup t m x c) (ht : P.underlying t = some (.map kt et)) (hd : P.underlying kt = some d) {agg : Bool} {kvs : List (Value × List RV)} (hM : MapAt G s m agg kvs)
    {k : Value} (hx : aval G s x = .rv (.v k)) (hkey : IsKey d k) (hks : KeysOk d kvs) (hno : ∀ p ∈ kvs, p.1 ≠ k) {z : Value} (hz : (P.info? et).bind (·.zero) = some z) (hzo : zOk z = true) :
    VStep P G o s (lookR c (zAV z) false) := fun E a w β ro hr => by
  obtain ⟨r, es, clock, h1, h3, h4, h5, h6⟩ := hM E a w β ro hr
  have hxe := hr.evalV hx
  have hfind := find_none h4 h6 hks hkey hno
  have hzr : (zeroValue et).run P w = .ok z w := by
    cases hi : P.info? et with
    | none => rw [hi] at hz; cases hz
    | some i =>
      rw [hi] at hz
      have hz' : i.zero = some z := hz
      simp [zeroValue, typeInfo, hi, hz']
  refine ⟨match c with | true => .tuple #[z, .bool false] | false => z, ?_, ?_⟩
  · cases c <;> simp [execOp, ho, h1, hxe, Instr.lookup, run_underlying ht, MapKept.run_getObj_map h3, run_checkKey hd hkey, run_findKey hd hfind, hzr, Result.andThen]
  · cases c with
    | false => exact zAV_rel hzo
    | true =>
      refine .tuple _ _ rfl fun j y hj => ?_
      match j, hj with
      | 0, hj => simp at hj; subst hj; exact zAV_rel hzo
      | 1, hj => simp at hj; subst hj; exact .ofV rfl
      | j + 2, hj => simp at hj
end
end Go.Av
namespace Go.Av
open Go Go.MapKept

def mput {K V : Type} [DecidableEq K] : List (K × V) → K → V → List (K × V)
 | [], k, v => [(k, v)]
 | (k', v') :: r, k, v => if k' = k then (k, v) :: r else (k', v') :: mput r k v
def mget {K V : Type} [DecidableEq K] : List (K × V) → K → Option V
 | [], _ => none
 | (k', v') :: r, k => if k' = k then some v' else mget r k
theorem mget_some {K V : Type} [DecidableEq K] : ∀ {l : List (K × V)} {k : K} {v : V}, mget l k = some v → ∃ i, l[i]? = some (k, v) ∧ ∀ w : V, mput l k w = l.set i (k, w)
 | [], _, _, h => by cases h
 | (k', v') :: r, k, v, h => by
  simp only [mget] at h
  split at h
  ·rename_i e
   cases h
   subst e
   exact ⟨0, rfl, fun w => by simp [mput]⟩
  ·rename_i e
   obtain ⟨i, h1, h2⟩ := mget_some h
   exact ⟨i + 1, by simpa using h1, fun w => by simp [mput, e, h2 w]⟩
theorem mget_none {K V : Type} [DecidableEq K] : ∀ {l : List (K × V)} {k : K}, mget l k = none → (∀ p ∈ l, p.1 ≠ k) ∧ ∀ w : V, mput l k w = l ++ [(k, w)]
 | [], _, _ => ⟨by simp, fun w => rfl⟩
 | (k', v') :: r, k, h => by
  simp only [mget] at h
  split at h
  ·cases h
  ·rename_i e
   obtain ⟨h1, h2⟩ := mget_none h
   refine ⟨fun p hp => ?_, fun w => by simp [mput, e, h2 w]⟩
   rcases List.mem_cons.1 hp with rfl | hp
   ·exact e
   ·exact h1 p hp
theorem mget_at {K V : Type} [DecidableEq K] [Inhabited V] {l : List (K × V)} {k : K} (h : (mget l k).isSome = true) : mget l k = some ((mget l k).getD default) := by
 cases hg : mget l k with
 | some v => rfl
 | none => rw [hg] at h; cases h
theorem mget_no {K V : Type} [DecidableEq K] {l : List (K × V)} {k : K} (h : (mget l k).isSome = false) : mget l k = none := by
 cases hg : mget l k with
 | some v => rw [hg] at h; cases h
 | none => rfl
def ents {K V : Type} (key : K → Value) (C : V → List RV) (l : List (K × V)) : List (Value × List RV) := l.map fun p => (key p.1, C p.2)
structure KeyFn {K : Type} (d : TypeDesc) (key : K → Value) : Prop where
 ok : ∀ k, IsKey d (key k)
 inj : ∀ k k', key k = key k' → k = k'
theorem keyS : KeyFn .string (fun s : ByteArray => Value.string s) := ⟨fun _ => trivial, fun _ _ h => by cases h; rfl⟩
theorem keyI (ik : IntKind) : KeyFn (.int ik) (fun n : Int => Value.int ik n) := ⟨fun _ => rfl, fun _ _ h => by cases h; rfl⟩
theorem KeyFn.ents {K V : Type} {d : TypeDesc} {key : K → Value} (h : KeyFn d key) (C : V → List RV) (l : List (K × V)) : KeysOk d (ents key C l) := by
 intro p hp
 obtain ⟨q, _, rfl⟩ := List.mem_map.1 hp
 exact h.ok q.1

section
variable {P : Program} {G : Glob} {o : Oper} {s : St} {K V : Type} [DecidableEq K]
theorem R_mapPutT {t kt et : TypeId} {d : TypeDesc} {key : K → Value} (hkf : KeyFn d key) (C : V → List RV) (agg : Bool) (l : List (K × V)) (k : K) (e : V) (id : Nat) {m x v : Operand} (ho : o.op = .mapUpdate t m x v) (ht : P.underlying t = some (.map kt et)) (hd : P.underlying kt = some d)
    (hm : aval G s m = .ref id) (hid : hget s.heap id = some (.oth (mapIt agg (ents key C l)))) (hx : aval G s x = .rv (.v (key k))) (hv : valAV agg (C e) (aval G s v)) :
    OpStep P G o s ({ s with heap := hset s.heap id (.oth (mapIt agg (ents key C (mput l k e)))) }.put o.dst .top) := by
  cases hg : mget l k with
  | some w =>
    obtain ⟨i, h1, h2⟩ := mget_some hg
    have h3 : (ents key C l)[i]? = some (key k, C w) := by simp [ents, h1]
    have := R_mapPut_old m x v ho ht hd hm hid hx (hkf.ok k) (hkf.ents C l) hv h3
    have e1 : ents key C (mput l k e) = (ents key C l).set i (key k, C e) := by rw [h2]; simp [ents, List.map_set]
    rw [e1]
    exact this
  | none =>
    obtain ⟨h1, h2⟩ := mget_none hg
    have := R_mapPut_new m x v ho ht hd hm hid hx (hkf.ok k) (hkf.ents C l) hv (fun p hp hk => by
      obtain ⟨q, hq, rfl⟩ := List.mem_map.1 hp
      exact h1 q hq (hkf.inj _ _ hk))
    have e1 : ents key C (mput l k e) = ents key C l ++ [(key k, C e)] := by rw [h2]; simp [ents]
    rw [e1]
    exact this
theorem R_mapGetT {t kt et : TypeId} {d : TypeDesc} {key : K → Value} (hkf : KeyFn d key) (C : V → List RV) (agg : Bool) (l : List (K × V)) (k : K) (e : V) (c : Bool) {m x : Operand} (ho : o.op = .lookup t m x c) (ht : P.underlying t = some (.map kt et)) (hd : P.underlying kt = some d)
    (hM : MapAt G s m agg (ents key C l)) (hx : aval G s x = .rv (.v (key k))) (hg : mget l k = some e) :
    VStep P G o s (lookR c (getAV agg (C e)) true) := by
  obtain ⟨i, h1, _⟩ := mget_some hg
  have h3 : (ents key C l)[i]? = some (key k, C e) := by simp [ents, h1]
  exact R_mapGet c m x ho ht hd hM hx (hkf.ok k) (hkf.ents C l) h3
theorem R_mapGetT_none {t kt et : TypeId} {d : TypeDesc} {key : K → Value} (hkf : KeyFn d key) (C : V → List RV) (agg : Bool) (l : List (K × V)) (k : K) (c : Bool) (z : Value) {m x : Operand} (ho : o.op = .lookup t m x c) (ht : P.underlying t = some (.map kt et)) (hd : P.underlying kt = some d)
    (hM : MapAt G s m agg (ents key C l)) (hx : aval G s x = .rv (.v (key k))) (hg : mget l k = none) (hz : (P.info? et).bind (·.zero) = some z) (hzo : zOk z = true) :
    VStep P G o s (lookR c (zAV z) false) :=
  R_mapGet_none c m x ho ht hd hM hx (hkf.ok k) (hkf.ents C l) (fun p hp hk => by
    obtain ⟨q, hq, rfl⟩ := List.mem_map.1 hp
    exact (mget_none hg).1 q hq (hkf.inj _ _ hk)) hz hzo
end
end Go.Av
namespace Go.Av
open Go

mutual
def subA (id : Nat) (x : RV) : AV → AV
 | .ref k => match Nat.beq k id with
  | true => .rv x
  | false => .ref k
 | .agg cs => .agg (subL id x cs)
 | .tuple cs => .tuple (subL id x cs)
 | .fn f p q => .fn f (subL id x p) (subL id x q)
 | .rv y => .rv y
 | .sl k => .sl k
 | .ptr k off => .ptr k off
 | .eptr k i off => .eptr k i off
 | .top => .top
def subL (id : Nat) (x : RV) : List AV → List AV
 | [] => []
 | y :: r => subA id x y :: subL id x r
end
theorem subL_length (id : Nat) (x : RV) : ∀ (l : List AV), (subL id x l).length = l.length
 | [] => rfl
 | y :: r => by simp [subL, subL_length id x r]
theorem subL_at (id : Nat) (x : RV) : ∀ {l : List AV} {j : Nat} {y : AV}, (subL id x l)[j]? = some y → ∃ z, l[j]? = some z ∧ y = subA id x z
 | [], j, y, h => by simp [subL] at h
 | z :: r, j, y, h => by
  cases j with
  | zero => simp [subL] at h; exact ⟨z, by simp, h.symm⟩
  | succ j => simp [subL] at h; simpa using subL_at id x h
def subO (id : Nat) (x : RV) : AObj → AObj
 | .box t cs => .box t (subL id x cs)
 | .row z t n es => .row z t n es
 | .oth Φ => .oth Φ
def subH (id : Nat) (x : RV) : Heap → Heap
 | [] => []
 | (k, o) :: r => (k, subO id x o) :: subH id x r
theorem hget_subH (id : Nat) (x : RV) : ∀ (h : Heap) (k : Nat), hget (subH id x h) k = (hget h k).map (subO id x)
 | [], k => by simp [subH, hget]
 | (j, o) :: r, k => by
  by_cases hj : j = k
  ·simp [subH, hget, hj]
  ·simp [subH, hget, hj, hget_subH id x r k]
def frzM (s : St) (id : Nat) : St :=
 match hget s.heap id with
 | some (.oth Φ) => match Φ.view with
  | some x => ⟨subL id x s.slots, subH id x (hdel s.heap id), s.next, s.base⟩
  | none => s
 | _ => s
theorem Le.frzM (s : St) (id : Nat) : Le s (frzM s id) := by
 unfold Go.Av.frzM
 split
 ·rename_i Φ hid
  split
  ·rename_i rv hv
   intro E G a w ⟨β, ro, h⟩
   have hO := h.heap.objs id _ hid
   cases hO with
   | oth _ bb ob g1 g2 g3 =>
    have hrv : RRel w (fun b => ro b ∨ blk (β id) = some b) rv (β id) := Φ.viewOk rv hv w ro _ _ ob bb g3 g1 g2 (fun _ h => .inl h) (.inr g1)
    have hsub : ∀ k o, hget (hdel s.heap id) k = some o → hget s.heap k = some o ∧ k ≠ id := by
     intro k o hk
     rw [hget_hdel] at hk
     split at hk
     ·cases hk
     ·rename_i hne
      exact ⟨hk, fun e => hne e.symm⟩
    have back : ∀ k o, hget (subH id rv (hdel s.heap id)) k = some o → ∃ p, hget s.heap k = some p ∧ k ≠ id ∧ p.live = o.live ∧ o = subO id rv p := by
     intro k o hg
     rw [hget_subH] at hg
     cases hk : hget (hdel s.heap id) k with
     | none => simp [hk] at hg
     | some p =>
      obtain ⟨h1, h2⟩ := hsub k p hk
      refine ⟨p, h1, h2, ?_, ?_⟩
      ·simp [hk] at hg
       subst hg
       cases p <;> rfl
      ·simp [hk] at hg
       exact hg.symm
    have view : ∀ x c, ARel w ro s.heap β s.next x c → ARel w (fun b => ro b ∨ blk (β id) = some b) (subH id rv (hdel s.heap id)) β s.next (subA id rv x) c := by
     intro x c hx
     induction hx with
     | rv x c hx => exact .rv x c (hx.keep (fun _ _ => rfl) fun _ h => .inl h)
     | agg cs c h1 _ ih =>
      refine .agg _ c (by rw [subL_length]; exact h1) fun j x hj => ?_
      obtain ⟨y, hy, rfl⟩ := subL_at _ _ hj
      exact ih j y hy
     | tuple cs c h1 _ ih =>
      refine .tuple _ c (by rw [subL_length]; exact h1) fun j x hj => ?_
      obtain ⟨y, hy, rfl⟩ := subL_at _ _ hj
      exact ih j y hy
     | ptr k off c hl hp =>
      refine .ptr k off c hl fun t' cs' hg => ?_
      obtain ⟨p, h1, _, _, h4⟩ := back k _ hg
      cases p with
      | box t2 cs2 => exact hp t2 cs2 h1
      | row => cases h4
      | oth => cases h4
     | eptr k i off c hl hp =>
      refine .eptr k i off c hl fun z' t' n' es' hg => ?_
      obtain ⟨p, h1, _, _, h4⟩ := back k _ hg
      cases p with
      | box => cases h4
      | oth => cases h4
      | row z2 t2 n2 es2 =>
       simp only [subO, AObj.row.injEq] at h4
       obtain ⟨rfl, rfl, rfl, rfl⟩ := h4
       exact hp _ _ _ _ h1
     | sl k c hl hp =>
      refine .sl k c hl fun z' t' n' es' hg => ?_
      obtain ⟨p, h1, _, _, h4⟩ := back k _ hg
      cases p with
      | box => cases h4
      | oth => cases h4
      | row z2 t2 n2 es2 => exact hp _ _ _ _ h1
     | fn f p q c d h1 h2 _ _ ih1 ih2 =>
      refine .fn f _ _ c d (by rw [subL_length]; exact h1) (by rw [subL_length]; exact h2) (fun j x hj => ?_) (fun j x hj => ?_)
      ·obtain ⟨y, hy, rfl⟩ := subL_at _ _ hj
       exact ih1 j y hy
      ·obtain ⟨y, hy, rfl⟩ := subL_at _ _ hj
       exact ih2 j y hy
     | ref k c hl hp =>
      simp only [subA]
      split
      ·rename_i hk
       have := Nat.eq_of_beq_eq_true hk
       subst this
       rw [hp _ hid]
       exact .rv _ _ hrv
      ·refine .ref k c hl fun Φ' hg => ?_
       obtain ⟨p, h1, _, _, h4⟩ := back k _ hg
       cases p with
       | box => cases h4
       | row => cases h4
       | oth Φ2 => exact hp Φ2 h1
     | top c => exact .top c
    refine ⟨β, fun b => ro b ∨ blk (β id) = some b, h.defers, by simpa [subL_length] using h.size, fun i x hx => ?_, ⟨fun k o hg => ?_, fun k k' o o' b hg hg' hl hl' hb hb' => ?_, fun b hb => ?_, fun b hb => ?_⟩,
     h.glob.keep (fun _ _ => rfl) fun _ h => .inl h, ?_, h.base⟩
    ·obtain ⟨y, hy, rfl⟩ := subL_at _ _ hx
     exact view _ _ (h.slot i y hy)
    ·obtain ⟨p, h1, h2, h3, rfl⟩ := back k o hg
     have ho := h.heap.objs k p h1
     cases ho with
     | box t' cs' b arr e1 e2 e3 e4 =>
      refine .box t' _ b arr e1 e2 (by rw [subL_length]; exact e3) fun j x hj => ?_
      obtain ⟨y, hy, rfl⟩ := subL_at _ _ hj
      exact view _ _ (e4 j y hy)
     | row t' n' es' xs' e1 e2 e3 => exact .row t' n' es' xs' e1 e2 fun j x hj => (e3 j x hj).keep (fun _ _ => rfl) fun _ h => .inl h
     | fro t' n' es' e1 => exact .fro t' n' es' (e1.keep (fun _ _ => rfl) fun _ h => .inl h)
     | oth Φ b o e1 e2 e3 => exact .oth Φ b o e1 e2 (Φ.mono _ _ _ _ (fun x c h => h.keep (fun _ _ => rfl) fun _ h => .inl h) e3)
    ·obtain ⟨p, h1, _, h3, _⟩ := back k o hg
     obtain ⟨p', h1', _, h3', _⟩ := back k' o' hg'
     exact h.heap.inj k k' p p' b h1 h1' (h3.trans hl) (h3'.trans hl') hb hb'
    ·rintro ⟨k, o, hg, hl, hbk⟩
     obtain ⟨p, h1, h2, h3, _⟩ := back k o hg
     rcases hb with hb | hb
     ·exact h.heap.disj b hb ⟨k, p, h1, h3.trans hl, hbk⟩
     ·exact h2 (h.heap.inj k id p _ b h1 hid (h3.trans hl) rfl hbk hb)
    ·rcases hb with hb | hb
     ·exact h.heap.lt b hb
     ·rw [g1] at hb
      simp only [Option.some.injEq] at hb
      subst hb
      exact (Array.getElem?_eq_some_iff.1 g2).1
    ·have t' := h.trans
     refine ⟨t'.os, t'.tape, t'.output, t'.size, t'.frame, fun b hb => ?_, fun b hb => .inl (t'.roKeep b hb), ?_, fun k hk o hg => ?_, fun k o hg => ?_, t'.le⟩
     ·rcases hb with hb | hb
      ·exact t'.roSub b hb
      ·rcases t'.ownSub b ⟨id, _, hid, rfl, hb⟩ with hc | hc
       ·exact .inr (.inl hc)
       ·exact .inr (.inr hc)
     ·rintro b ⟨k, o, hg, hl, hbk⟩
      obtain ⟨p, h1, _, h3, _⟩ := back k o hg
      exact t'.ownSub b ⟨k, p, h1, h3.trans hl, hbk⟩
     ·obtain ⟨p, h1, _, _, _⟩ := back k o hg
      exact t'.old k hk p h1
     ·obtain ⟨p, h1, _, _, _⟩ := back k o hg
      exact t'.new k p h1
  ·exact Le.refl s
 ·exact Le.refl s

def loopW {R A : Type} (b : A → Step R A) : Nat → A → R ⊕ A
 | 0, a => .inr a
 | n + 1, a => match b a with
  | .ret r => .inl r
  | .brk a => .inr a
  | .nxt a => loopW b n a
def endsW {R A : Type} (b : A → Step R A) : Nat → A → Prop
 | 0, _ => False
 | n + 1, a => match b a with
  | .ret _ => True
  | .brk _ => True
  | .nxt a => endsW b n a
theorem loopW_next {R A : Type} {b : A → Step R A} {n : Nat} {a a' : A} {L : R ⊕ A} (h : L = loopW b n a ∧ endsW b n a) (hb : b a = .nxt a') : ∃ m, n = m + 1 ∧ L = loopW b m a' ∧ endsW b m a' := by
 obtain ⟨h1, h2⟩ := h
 cases n with
 | zero => cases h2
 | succ n => exact ⟨n, rfl, by simpa [loopW, hb] using h1, by simpa [endsW, hb] using h2⟩
theorem loopW_brk {R A : Type} {b : A → Step R A} {n : Nat} {a a' : A} {L : R ⊕ A} (h : L = loopW b n a ∧ endsW b n a) (hb : b a = .brk a') : L = .inr a' := by
 obtain ⟨h1, h2⟩ := h
 cases n with
 | zero => cases h2
 | succ n => simpa [loopW, hb] using h1
end Go.Av
namespace Go.Av
open Go Go.MapKept


theorem getEx {α : Type} {l : List α} {j : Nat} (h : j < l.length) : ∃ e, l[j]? = some e := ⟨_, List.getElem?_eq_getElem h⟩
def loopV {A : Type} (b : A → Step Unit A) (n : Nat) (a : A) : A :=
 match loopW b n a with
 | .inl _ => a
 | .inr x => x
theorem loopV_of {A : Type} {b : A → Step Unit A} {n : Nat} {a v : A} (h : loopW b n a = .inr v) : v = loopV b n a := by
 unfold loopV
 rw [h]

abbrev mapO {K V : Type} (agg : Bool) (key : K → Value) (C : V → List RV) (l : List (K × V)) : AObj := .oth (mapIt agg (ents key C l))
abbrev mapM {K V : Type} (agg : Bool) (key : K → Value) (C : V → List RV) (l : List (K × V)) : RV := mapR agg (ents key C l)
abbrev kS : ByteArray → Value := fun s => .string s
abbrev kI (k : IntKind) : Int → Value := fun n => .int k n

def lookOf (P : Program) (o : Oper) : Option (Operand × Operand × Bool × TypeDesc × TypeId) :=
 match o.op with
 | .lookup t m x c => match P.underlying t with
  | some (.map kt et) => match P.underlying kt with
   | some d => some (m, x, c, d, et)
   | none => none
  | _ => none
 | _ => none
def mapPutOf (P : Program) (o : Oper) : Option (Operand × Operand × Operand × TypeDesc) :=
 match o.op with
 | .mapUpdate t m x v => match P.underlying t with
  | some (.map kt _) => match P.underlying kt with
   | some d => some (m, x, v, d)
   | none => none
  | _ => none
 | _ => none
def mapNewOf (o : Oper) : Bool :=
 match o.op with
 | .makeMap _ none => true
 | _ => false
def valX (agg : Bool) (cs : List RV) : Option AV :=
 match agg, cs with
 | true, cs => some (.agg (cs.map .rv))
 | false, [x] => some (.rv x)
 | false, _ => none
theorem valX_av {agg : Bool} {cs : List RV} {v : AV} (h : valX agg cs = some v) : valAV agg cs v := by
 cases agg with
 | true => exact (Option.some.inj h).symm
 | false =>
  match cs, h with
  | [x], h => exact ⟨x, rfl, (Option.some.inj h).symm⟩

section
variable {G : Glob} {s : St} {K V : Type}
theorem MapAt.o {key : K → Value} {C : V → List RV} {m : Operand} {agg : Bool} {l : List (K × V)} (id : Nat) (hm : aval G s m = .ref id := by as_aux_lemma => kernel_rfl) (hid : hget s.heap id = some (mapO agg key C l) := by as_aux_lemma => kernel_rfl) : MapAt G s m agg (ents key C l) := .own hm hid
theorem MapAt.m {key : K → Value} {C : V → List RV} {m : Operand} {agg : Bool} {l : List (K × V)} (hm : aval G s m = .rv (mapM agg key C l) := by as_aux_lemma => kernel_rfl) : MapAt G s m agg (ents key C l) := .imm hm
end
section
variable {P : Program} {G : Glob} {Q : Exit → St → Prop} {s : St} {K V : Type} [DecidableEq K]
theorem AOps.mapNew {ops : Array Oper} {o : Oper} {rest : List Oper} (agg : Bool) (k : AOps P G ops Q rest ({ s with heap := (s.next, .oth (mapIt agg [])) :: s.heap, next := s.next + 1 }.put o.dst (.ref s.next)))
    (hg : gwant ops s o = some true := by as_aux_lemma => kernel_rfl) (ho : mapNewOf o = true := by as_aux_lemma => kernel_rfl) (hb : Nat.ble s.base s.next = true := by as_aux_lemma => kernel_rfl) : AOps P G ops Q (o :: rest) s := by
  unfold mapNewOf at ho
  split at ho
  · rename_i t ho'
    exact AOps.step hg (R_makeMap agg t ho' (Nat.le_of_ble_eq_true hb)) k
  · cases ho
theorem AOps.mapPut {ops : Array Oper} {o : Oper} {rest : List Oper} {d : TypeDesc} {key : K → Value} (hkf : KeyFn d key) (C : V → List RV) (agg : Bool) (l : List (K × V)) (x : K) (e : V) (id : Nat) (m y v : Operand)
    (k : AOps P G ops Q rest ({ s with heap := hset s.heap id (mapO agg key C (mput l x e)) }.put o.dst .top))
    (hg : gwant ops s o = some true := by as_aux_lemma => kernel_rfl) (ho : mapPutOf P o = some (m, y, v, d) := by as_aux_lemma => kernel_rfl) (hm : aval G s m = .ref id := by as_aux_lemma => kernel_rfl)
    (hid : hget s.heap id = some (mapO agg key C l) := by as_aux_lemma => kernel_rfl) (hy : aval G s y = .rv (.v (key x)) := by as_aux_lemma => kernel_rfl) (hv : valX agg (C e) = some (aval G s v) := by as_aux_lemma => kernel_rfl) : AOps P G ops Q (o :: rest) s := by
  unfold mapPutOf at ho
  split at ho
  · rename_i t m' y' v' ho'
    split at ho
    · rename_i kt et ht
      split at ho
      · rename_i d' hd
        simp only [Option.some.injEq, Prod.mk.injEq] at ho
        obtain ⟨rfl, rfl, rfl, rfl⟩ := ho
        exact AOps.step hg (R_mapPutT hkf C agg l x e id ho' ht hd hm hid hy (valX_av hv)) k
      · cases ho
    · cases ho
  · cases ho
theorem AOps.mapGet {ops : Array Oper} {o : Oper} {rest : List Oper} {d : TypeDesc} {key : K → Value} (hkf : KeyFn d key) (C : V → List RV) (agg : Bool) (l : List (K × V)) (x : K) (e : V) (m y : Operand) (c : Bool) (et : TypeId) (hM : MapAt G s m agg (ents key C l)) (hx : mget l x = some e)
    (k : AOps P G ops Q rest (s.put o.dst (lookR c (getAV agg (C e)) true)))
    (hg : gwant ops s o = some true := by as_aux_lemma => kernel_rfl) (ho : lookOf P o = some (m, y, c, d, et) := by as_aux_lemma => kernel_rfl) (hy : aval G s y = .rv (.v (key x)) := by as_aux_lemma => kernel_rfl) : AOps P G ops Q (o :: rest) s := by
  unfold lookOf at ho
  split at ho
  · rename_i t m' y' c' ho'
    split at ho
    · rename_i kt et' ht
      split at ho
      · rename_i d' hd
        simp only [Option.some.injEq, Prod.mk.injEq] at ho
        obtain ⟨rfl, rfl, rfl, rfl, rfl⟩ := ho
        exact AOps.step hg (R_mapGetT hkf C agg l x e c' ho' ht hd hM hy hx).step k
      · cases ho
    · cases ho
  · cases ho
theorem AOps.mapGetN {ops : Array Oper} {o : Oper} {rest : List Oper} {d : TypeDesc} {key : K → Value} (hkf : KeyFn d key) (C : V → List RV) (agg : Bool) (l : List (K × V)) (x : K) (m y : Operand) (c : Bool) (et : TypeId) (z : Value) (hM : MapAt G s m agg (ents key C l)) (hx : mget l x = none)
    (k : AOps P G ops Q rest (s.put o.dst (lookR c (zAV z) false)))
    (hg : gwant ops s o = some true := by as_aux_lemma => kernel_rfl) (ho : lookOf P o = some (m, y, c, d, et) := by as_aux_lemma => kernel_rfl) (hy : aval G s y = .rv (.v (key x)) := by as_aux_lemma => kernel_rfl)
    (hz : (P.info? et).bind (·.zero) = some z := by as_aux_lemma => kernel_rfl) (hzo : zOk z = true := by as_aux_lemma => kernel_rfl) : AOps P G ops Q (o :: rest) s := by
  unfold lookOf at ho
  split at ho
  · rename_i t m' y' c' ho'
    split at ho
    · rename_i kt et' ht
      split at ho
      · rename_i d' hd
        simp only [Option.some.injEq, Prod.mk.injEq] at ho
        obtain ⟨rfl, rfl, rfl, rfl, rfl⟩ := ho
        exact AOps.step hg (R_mapGetT_none hkf C agg l x c' z ho' ht hd hM hy hx hz hzo).step k
      · cases ho
    · cases ho
  · cases ho
end
end Go.Av
namespace Go.Av
open Go


section
variable {P : Program} {G : Glob} {o : Oper} {s : St} {Q : Exit → St → Prop}
theorem AOps.vstepP {ops : Array Oper} {rest : List Oper} (v : AV) (hv : VStep P G o s v) (k : AOps P G ops Q rest (s.put o.dst v)) (hg : gwant ops s o = some true := by as_aux_lemma => kernel_rfl) : AOps P G ops Q (o :: rest) s :=
 AOps.step hg hv.step k
end
end Go.Av
namespace Go.Av
open Go

abbrev u8C (n : Int) : List RV := [.v (.int .u8 n)]
def orI (k : IntKind) (x y : Int) : Int := k.wrap ((BitVec.ofInt k.bits x ||| BitVec.ofInt k.bits y).toNat : Int)
def andI (k : IntKind) (x y : Int) : Int := k.wrap ((BitVec.ofInt k.bits x &&& BitVec.ofInt k.bits y).toNat : Int)
def xorI (k : IntKind) (x y : Int) : Int := k.wrap ((BitVec.ofInt k.bits x ^^^ BitVec.ofInt k.bits y).toNat : Int)
def bytesOf (l : List Int) : ByteArray := l.foldl (fun r n => r.push (UInt8.ofNat n.toNat)) ByteArray.empty

def binOf (o : Oper) : Option (BinOp × Operand × Operand) :=
 match o.op with
 | .binOp op _ x y _ => some (op, x, y)
 | _ => none
def strOf (P : Program) (o : Oper) : Option Operand :=
 match o.op with
 | .convert src dst x => match P.underlying src, P.underlying dst with
  | some (.slice e), some .string => match P.underlying e with
   | some (.int .u8) => some x
   | _ => none
  | _, _ => none
 | _ => none

theorem flat_u8 : ∀ (l : List Int), (l.map fun n => [RV.v (.int .u8 n)]).flatten = l.map fun n => RV.v (.int .u8 n)
 | [] => rfl
 | n :: l => by simp only [List.map_cons, List.flatten_cons, flat_u8 l]; rfl

section
variable {P : Program} {G : Glob} {o : Oper} {s : St}
theorem R_bits {op : BinOp} (tx ty : TypeId) (x y : Operand) (ho : o.op = .binOp op tx x y ty) {k : IntKind} {a b r : Int} (hx : aval G s x = .rv (.v (.int k a))) (hy : aval G s y = .rv (.v (.int k b)))
    (hr : ∀ w, (binOp op tx (.int k a) (.int k b)).run P w = .ok (.int k r) w) : VStep P G o s (.rv (.v (.int k r))) :=
  fun _ a' w β ro h => by
    have hg : (eqGuard op tx x y (.int k a) (.int k b)).run P w = .ok () w := by rw [eqGuard_at_int]; rfl
    exact ⟨.int k r, by simp [execOp, ho, h.evalV hx, h.evalV hy, hg, hr w], .ofV rfl⟩

theorem R_string (src dst e : TypeId) (x : Operand) (ho : o.op = .convert src dst x) (hs : P.underlying src = some (.slice e)) (he : P.underlying e = some (.int .u8)) (hd : P.underlying dst = some .string)
    {l : List Int} (hx : aelems s.heap 1 (aval G s x) = some (l.map fun n => [.v (.int .u8 n)])) : VStep P G o s (.rv (.v (.string (bytesOf l)))) :=
  fun _ a w β ro h => by
    obtain ⟨b, cap, hc, _, hbn, f, hf1, hf2⟩ := aelems_rel h.heap (h.eval x) hx
    rw [List.length_map] at hc hf1
    have hrun : (Conv.bytesToString (a.eval x)).run P w = .ok (.string (bytesOf l)) w := by
      rw [hc]
      cases b with
      | none =>
        have h0 : l = [] := List.map_eq_nil_iff.1 (hbn rfl)
        subst h0
        rfl
      | some ad =>
        refine run_bytesToString w ad l.length cap l ?_
        have := run_loadCells_list (P := P) (w := w) ad (l.map (Value.int .u8)) fun j v hj => by
          have hjl : j < l.length := by
            have := (List.getElem?_eq_some_iff.1 hj).1
            simpa using this
          rw [hf1 ad rfl j (by omega)]
          have h2 := flat_u8 l
          have h3 := hf2 j (.v v) (by rw [h2]; rw [List.getElem?_map] at hj ⊢; cases hq : l[j]? with
            | none => rw [hq] at hj; cases hj
            | some n => rw [hq] at hj; simp only [Option.map_some, Option.some.injEq] at hj ⊢; subst hj; rfl)
          cases h3
          rfl
        simpa using this
    obtain ⟨c0, hc0⟩ : ∃ l' c', a.eval x = .slice b l' c' := ⟨_, _, hc⟩
    obtain ⟨c1, hc1⟩ := hc0
    have hcv : (convert src dst (a.eval x)).run P w = .ok (.string (bytesOf l)) w := by
      rw [hc1] at hrun ⊢
      rw [run_convert_bytes_string w src dst e b c0 c1 hs he hd]
      exact hrun
    exact ⟨.string (bytesOf l), by simp [execOp, ho, hcv], .ofV rfl⟩
end

section
variable {P : Program} {G : Glob} {Q : Exit → St → Prop} {s : St} {ops : Array Oper} {o : Oper} {rest : List Oper}
theorem AOps.orI (k : IntKind) (a b : Int) (x y : Operand) (h : AOps P G ops Q rest (s.put o.dst (.rv (.v (.int k (orI k a b))))))
    (hg : gwant ops s o = some true := by as_aux_lemma => kernel_rfl) (ho : binOf o = some (.or, x, y) := by as_aux_lemma => kernel_rfl) (hx : aval G s x = .rv (.v (.int k a)) := by as_aux_lemma => kernel_rfl) (hy : aval G s y = .rv (.v (.int k b)) := by as_aux_lemma => kernel_rfl) : AOps P G ops Q (o :: rest) s := by
  unfold binOf at ho
  split at ho
  · rename_i op t x' y' t' ho'
    simp only [Option.some.injEq, Prod.mk.injEq] at ho
    obtain ⟨rfl, rfl, rfl⟩ := ho
    exact AOps.vstepP _ (R_bits _ _ _ _ ho' hx hy fun w => by simp [binOp, Op.intBits, Av.orI]) h hg
  · cases ho
theorem AOps.andI (k : IntKind) (a b : Int) (x y : Operand) (h : AOps P G ops Q rest (s.put o.dst (.rv (.v (.int k (andI k a b))))))
    (hg : gwant ops s o = some true := by as_aux_lemma => kernel_rfl) (ho : binOf o = some (.and, x, y) := by as_aux_lemma => kernel_rfl) (hx : aval G s x = .rv (.v (.int k a)) := by as_aux_lemma => kernel_rfl) (hy : aval G s y = .rv (.v (.int k b)) := by as_aux_lemma => kernel_rfl) : AOps P G ops Q (o :: rest) s := by
  unfold binOf at ho
  split at ho
  · rename_i op t x' y' t' ho'
    simp only [Option.some.injEq, Prod.mk.injEq] at ho
    obtain ⟨rfl, rfl, rfl⟩ := ho
    exact AOps.vstepP _ (R_bits _ _ _ _ ho' hx hy fun w => by simp [binOp, Op.intBits, Av.andI]) h hg
  · cases ho
theorem AOps.xorI (k : IntKind) (a b : Int) (x y : Operand) (h : AOps P G ops Q rest (s.put o.dst (.rv (.v (.int k (xorI k a b))))))
    (hg : gwant ops s o = some true := by as_aux_lemma => kernel_rfl) (ho : binOf o = some (.xor, x, y) := by as_aux_lemma => kernel_rfl) (hx : aval G s x = .rv (.v (.int k a)) := by as_aux_lemma => kernel_rfl) (hy : aval G s y = .rv (.v (.int k b)) := by as_aux_lemma => kernel_rfl) : AOps P G ops Q (o :: rest) s := by
  unfold binOf at ho
  split at ho
  · rename_i op t x' y' t' ho'
    simp only [Option.some.injEq, Prod.mk.injEq] at ho
    obtain ⟨rfl, rfl, rfl⟩ := ho
    exact AOps.vstepP _ (R_bits _ _ _ _ ho' hx hy fun w => by simp [binOp, Op.intBits, Av.xorI]) h hg
  · cases ho
def bitV (op : BinOp) : Value → Value → Option Value
 | .int k a, .int k' b => if k = k' then match op with
  | .and => some (.int k (Av.andI k a b))
  | .or => some (.int k (Av.orI k a b))
  | .xor => some (.int k (Av.xorI k a b))
  | _ => none
  else none
 | _, _ => none
theorem bitV_run {P : Program} {op : BinOp} {x y c : Value} (h : bitV op x y = some c) (t : TypeId) (p q : Operand) (w : World) :
    (eqGuard op t p q x y).run P w = .ok () w ∧ (binOp op t x y).run P w = .ok c w ∧ c.oneCell' = true := by
  unfold bitV at h
  split at h
  · split at h
    · rename_i hk
      subst hk
      refine ⟨by rw [eqGuard_at_int]; rfl, ?_⟩
      split at h
      all_goals first
        | (cases h; done)
        | (simp only [Option.some.injEq] at h
           subst h
           exact ⟨by simp [binOp, Op.intBits, Av.orI, Av.andI, Av.xorI], rfl⟩)
    · cases h
  · cases h
def pval2 (P : Program) (G : Glob) (o : Oper) (s : St) : Option AV :=
 match o.op with
 | .binOp op _ x y _ => match aval G s x, aval G s y with
  | .rv (.v u), .rv (.v v) => match binV op u v, bitV op u v with
   | some c, _ => some (.rv (.v c))
   | none, some c => some (.rv (.v c))
   | none, none => none
  | _, _ => none
 | .convert src dst x => match aval G s x, P.underlying src, P.underlying dst with
  | .rv (.v (.int _ n)), some _, some (.int k') => some (.rv (.v (.int k' (k'.wrap n))))
  | _, _, _ => none
 | .extract x i => match aval G s x with
  | .tuple cs => cs[i]?
  | _ => none
 | _ => none
theorem PStep.val2 {s : St} {ops : Array Oper} {o : Oper} {v : AV} (hv : pval2 P G o s = some v) (hg : gwant ops s o = some true) : PStep P G ops o s (s.put o.dst v) := by
 intro E a w ⟨β, ro, hr⟩
 have hw := wanted_of (ops := ops) ⟨β, ro, hr⟩ hg
 unfold pval2 at hv
 split at hv
 ·rename_i op t x y t' ho
  split at hv
  ·rename_i u u' hx hy
   split at hv
   ·rename_i _ _ c hc
    simp only [Option.some.injEq] at hv
    subst hv
    exact ⟨c, .inl ⟨hw, fun w' => by
     obtain ⟨h1, h2, _⟩ := binV_run (P := P) hc t x y w'
     simp [execOp, ho, hr.evalV hx, hr.evalV hy, h1, h2]⟩, β, ro, hr.put _ _ _ (.ofV (binV_run (P := P) hc t x y w).2.2)⟩
   ·rename_i c _ hc
    simp only [Option.some.injEq] at hv
    subst hv
    exact ⟨c, .inl ⟨hw, fun w' => by
     obtain ⟨h1, h2, _⟩ := bitV_run (P := P) hc t x y w'
     simp [execOp, ho, hr.evalV hx, hr.evalV hy, h1, h2]⟩, β, ro, hr.put _ _ _ (.ofV (bitV_run (P := P) hc t x y w).2.2)⟩
   ·cases hv
  ·cases hv
 ·rename_i src dst x ho
  split at hv
  ·rename_i n _ k' hx hs hd
   simp only [Option.some.injEq] at hv
   subst hv
   exact ⟨_, .inl ⟨hw, fun w' => by simp [execOp, ho, hr.evalV hx, convert, run_underlying hs, run_underlying hd, Conv.intToInt]⟩, β, ro, hr.put _ _ _ (.ofV rfl)⟩
  ·cases hv
 ·rename_i x i ho
  split at hv
  ·rename_i cs hx
   have h := hr.eval x
   rw [hx] at h
   generalize he : a.eval x = c at h
   cases h with
   | tuple _ c hs hc =>
    have hlt : i < c.size := by have := (List.getElem?_eq_some_iff.1 hv).1; omega
    refine ⟨c[i], .inl ⟨hw, fun w' => by simp [execOp, ho, Instr.extract, he, hlt]⟩, β, ro, hr.put _ _ _ ?_⟩
    simpa [hlt] using hc i v hv
  ·cases hv
 ·cases hv
theorem AD.tkV {L : List Oper} {fuel : Nat} {m : List Bool} {s : St} (i n : Nat) (l : List (Nat × AV)) (h : Heap) (N : Nat) (k : AD P G L Q fuel (m.set i true) (Z n l h N))
    (hp : ((L[i]?).bind fun o => match gwant L.toArray s o, pval2 P G o s with
      | some true, some v => some (vw l h (s.put o.dst v), (s.put o.dst v).next)
      | _, _ => none) = some (vz l h n, N) := by as_aux_lemma => kernel_rfl) (hs : Region.noSelect L.toArray = true := by as_aux_lemma => kernel_rfl)
    (hf : Region.free .any L.toArray m.toArray i = true := by as_aux_lemma => kernel_rfl) (hr : (Region.ready .any L.toArray m.toArray).contains i = true := by as_aux_lemma => kernel_rfl) : AD P G L Q (fuel + 1) m s := by
  cases ho : L[i]? with
  | none => rw [ho] at hp; cases hp
  | some o =>
    rw [ho] at hp
    simp only [Option.bind_some] at hp
    split at hp
    · rename_i v hg hv
      simp only [Option.some.injEq, Prod.mk.injEq] at hp
      exact AD.take i ho (PStep.val2 hv hg) (fun E a w hr => k E a w (le_vw hp.1 (Nat.le_of_eq hp.2) E G a w hr)) hs hf hr
    · cases hp
theorem AOps.cat (u v : ByteArray) (x y : Operand) (hs : u.size + v.size ≤ 9223372036854775807) (h : AOps P G ops Q rest (s.put o.dst (vs (u ++ v))))
    (hg : gwant ops s o = some true := by as_aux_lemma => kernel_rfl) (ho : binOf o = some (.add, x, y) := by as_aux_lemma => kernel_rfl) (hx : aval G s x = .rv (.v (.string u)) := by as_aux_lemma => kernel_rfl) (hy : aval G s y = .rv (.v (.string v)) := by as_aux_lemma => kernel_rfl) : AOps P G ops Q (o :: rest) s := by
  unfold binOf at ho
  split at ho
  · rename_i op t x' y' t' ho'
    simp only [Option.some.injEq, Prod.mk.injEq] at ho
    obtain ⟨rfl, rfl, rfl⟩ := ho
    exact AOps.vstepP _ (R_concat _ _ _ _ ho' hx hy hs) h hg
  · cases ho
theorem AOps.str (l : List Int) (x : Operand) (h : AOps P G ops Q rest (s.put o.dst (vs (bytesOf l))))
    (hg : gwant ops s o = some true := by as_aux_lemma => kernel_rfl) (ho : strOf P o = some x := by as_aux_lemma => kernel_rfl) (hx : aelems s.heap 1 (aval G s x) = some (l.map fun n => [.v (.int .u8 n)]) := by as_aux_lemma => kernel_rfl) : AOps P G ops Q (o :: rest) s := by
  unfold strOf at ho
  split at ho
  · rename_i src dst x' ho'
    split at ho
    · rename_i e hsr hd
      split at ho
      · rename_i he
        simp only [Option.some.injEq] at ho
        subst ho
        exact AOps.vstepP _ (R_string src dst e x' ho' hsr he hd hx) h hg
      · cases ho
    · cases ho
  · cases ho
end
end Go.Av
namespace Go.Av
open Go

theorem Kp.trans {w w1 w2 : World} (h : Kp w w1) (k : Kp w1 w2) : Kp w w2 := fun b hb => by
 have h1 := h b hb
 have hb1 : b < w1.heap.size := by
  rcases Nat.lt_or_ge b w1.heap.size with h2 | h2
  ·exact h2
  ·rw [Array.getElem?_eq_none h2, Array.getElem?_eq_getElem hb] at h1
   cases h1
 rw [k b hb1, h1]
theorem Kp.cell {w w1 : World} (h : Kp w w1) {a : Addr} {c : Value} (hc : w.cell? a = some c) : w1.cell? a = some c := by
 have hb : a.block < w.heap.size := by
  rcases Nat.lt_or_ge a.block w.heap.size with hb | hb
  ·exact hb
  ·unfold World.cell? at hc
   rw [Array.getElem?_eq_none hb] at hc
   cases hc
 unfold World.cell? at hc ⊢
 rw [h _ hb]
 exact hc


section
variable {P : Program} {G : Glob} {Q : Exit → St → Prop} {L : List Oper} {wr : List Bool}
def KOp (P : Program) (G : Glob) (ops : Array Oper) (o : Oper) (s s' : St) : Prop := ∀ E a w, Rel E G s a w →
 (Region.wanted o (yielded ops a.tmps) = true ∧ ∀ (K : Act → World → Prop) (Q : Exit → Act → World → Prop), (∀ a' w', Rel E G s' a' w' → Kp w w' → K a' w') → o.wp P a w K Q) ∨
 (Region.wanted o (yielded ops a.tmps) = false ∧ Rel E G s' (a.put o.dst undef) w)
theorem KOp.of {ops : Array Oper} {o : Oper} {s s1 s' : St} (hg : gwant ops s o = some true) (hk : KStep P G o s s1) (hl : Le s1 s') : KOp P G ops o s s' := fun E a w hr =>
 .inl ⟨wanted_of hr hg, fun K Q hK => hk E a w hr K Q fun a' w' hr' => hK a' w' (hl E G a' w' hr')⟩
def kstate (P : Program) (G : Glob) (o : Oper) (s : St) : Option St :=
 match vstep P G o s with
 | some v => some (s.put o.dst v)
 | none => match o.op with
  | .alloc t => match zeroCells P t with
   | some zs => match zs.all Value.oneCell' && Nat.ble s.base s.next with
    | true => some ({ s with heap := (s.next, .box t (zs.map fun z => .rv (.v z))) :: s.heap, next := s.next + 1 }.put o.dst (.ptr s.next 0))
    | false => none
   | none => none
  | .box t x => match (vcells (aval G s x)).all (cellOkIn s.heap) && Nat.ble s.base s.next with
   | true => some ({ s with heap := (s.next, .box t (vcells (aval G s x))) :: s.heap, next := s.next + 1 }.put o.dst (.ptr s.next 0))
   | false => none
  | _ => none
theorem kstate_sound {o : Oper} {s s' : St} (h : kstate P G o s = some s') : KStep P G o s s' := by
 unfold kstate at h
 split at h
 ·rename_i v hv
  simp only [Option.some.injEq] at h
  subst h
  exact (vstep_sound hv).kstep
 ·split at h
  ·rename_i t ho
   split at h
   ·rename_i zs hz
    split at h
    ·rename_i hb
     rw [Bool.and_eq_true] at hb
     simp only [Option.some.injEq] at h
     subst h
     exact RK_alloc t ho (Nat.le_of_ble_eq_true hb.2) hz hb.1
    ·cases h
   ·cases h
  ·rename_i t x ho
   split at h
   ·rename_i hb
    rw [Bool.and_eq_true] at hb
    simp only [Option.some.injEq] at h
    subst h
    exact RK_box t x ho (Nat.le_of_ble_eq_true hb.2) hb.1
   ·cases h
  ·cases h
theorem KOp.run {ops : Array Oper} {o : Oper} {s : St} (n : Nat) (l : List (Nat × AV)) (h : Heap) (N : Nat)
    (hx : (match gwant ops s o, kstate P G o s with
      | some true, some s' => some (vw l h s', s'.next)
      | _, _ => none) = some (vz l h n, N) := by as_aux_lemma => kernel_rfl) : KOp P G ops o s (Z n l h N) := by
  split at hx
  · rename_i s' hg hs'
    simp only [Option.some.injEq, Prod.mk.injEq] at hx
    exact KOp.of hg (kstate_sound hs') (le_vw hx.1 (Nat.le_of_eq hx.2))
  · cases hx
end
end Go.Av
namespace Go.Av
open Go

mutual
def unA (ids : List Nat) : AV → AV
 | .rv x => .rv x
 | .agg cs => .agg (unL ids cs)
 | .tuple cs => .tuple (unL ids cs)
 | .ptr j off => match ids[j]? with
  | some id => .ptr id off
  | none => .top
 | .eptr j i off => match ids[j]? with
  | some id => .eptr id i off
  | none => .top
 | .sl j => match ids[j]? with
  | some id => .sl id
  | none => .top
 | .fn f p q => .fn f (unL ids p) (unL ids q)
 | .ref j => match ids[j]? with
  | some id => .ref id
  | none => .top
 | .top => .top
def unL (ids : List Nat) : List AV → List AV
 | [] => []
 | x :: r => unA ids x :: unL ids r
end
theorem unL_length (ids : List Nat) : ∀ (l : List AV), (unL ids l).length = l.length
 | [] => rfl
 | x :: r => by simp [unL, unL_length ids r]
theorem unL_at (ids : List Nat) : ∀ {l : List AV} {j : Nat} {x : AV}, (unL ids l)[j]? = some x → ∃ y, l[j]? = some y ∧ x = unA ids y
 | [], j, x, h => by simp [unL] at h
 | y :: r, j, x, h => by
  cases j with
  | zero => simp [unL] at h; exact ⟨y, by simp, h.symm⟩
  | succ j => simp [unL] at h; simpa using unL_at ids h
theorem unL_get (ids : List Nat) : ∀ {l : List AV} {j : Nat} {y : AV}, l[j]? = some y → (unL ids l)[j]? = some (unA ids y)
 | [], j, y, h => by simp at h
 | z :: r, j, y, h => by
  cases j with
  | zero => simp at h; simp [unL, h]
  | succ j => simp at h; simpa [unL] using unL_get ids h
mutual
def closA (n : Nat) : AV → Bool
 | .rv _ => true
 | .agg cs => closL n cs
 | .tuple cs => closL n cs
 | .ptr j _ => Nat.blt j n
 | .eptr j _ _ => Nat.blt j n
 | .sl j => Nat.blt j n
 | .fn _ p q => closL n p && closL n q
 | .ref j => Nat.blt j n
 | .top => true
def closL (n : Nat) : List AV → Bool
 | [] => true
 | x :: r => closA n x && closL n r
end
theorem closL_at {n : Nat} : ∀ {l : List AV} {j : Nat} {x : AV}, closL n l = true → l[j]? = some x → closA n x = true
 | [], j, x, _, h => by simp at h
 | y :: r, j, x, hc, h => by
  simp only [closL, Bool.and_eq_true] at hc
  cases j with
  | zero => simp at h; subst h; exact hc.1
  | succ j => simp at h; exact closL_at hc.2 h
def unO (ids : List Nat) : AObj → AObj
 | .box t cs => .box t (unL ids cs)
 | .row fz t n es => .row fz t n es
 | .oth Φ => .oth Φ
def closO (n : Nat) : AObj → Bool
 | .box _ cs => closL n cs
 | .row fz _ _ _ => !fz
 | .oth _ => true
theorem closO_live {n : Nat} {o : AObj} (h : closO n o = true) : o.live = true := by
 cases o with
 | box => rfl
 | row fz _ _ _ => simpa [closO, AObj.live] using h
 | oth => rfl
theorem unO_live (ids : List Nat) (o : AObj) : (unO ids o).live = o.live := by cases o <;> rfl

section
variable {w : World} {ro : Nat → Prop} {σ : Heap} {β : Nat → Value} {N : Nat} {ids : List Nat} {os : List AObj}
theorem hos_at (hos : ids.map (hget σ) = os.map fun o => some (unO ids o)) {j : Nat} {o : AObj} (ho : os[j]? = some o) : ∃ id, ids[j]? = some id ∧ hget σ id = some (unO ids o) ∧ hand β ids j = β id := by
 have hlen : ids.length = os.length := by simpa using congrArg List.length hos
 have hjl : j < ids.length := by rw [hlen]; exact (List.getElem?_eq_some_iff.1 ho).1
 have h1 : ids[j]? = some ids[j] := List.getElem?_eq_getElem hjl
 have h2 := congrArg (·[j]?) hos
 simp only [List.getElem?_map, h1, ho, Option.map_some, Option.some.injEq] at h2
 exact ⟨_, h1, h2, by simp [hand, List.getD, h1]⟩
theorem un_rel (hos : ids.map (hget σ) = os.map fun o => some (unO ids o)) {y : AV} {c : Value} (h : ARel w ro σ β N y c) : ∀ x, unA ids x = y → closA os.length x = true → ARel w ro (number 0 os) (hand β ids) os.length x c := by
 have hlen : ids.length = os.length := by simpa using congrArg List.length hos
 have nm : ∀ {j : Nat}, Nat.blt j os.length = true → ids[j]? = some (ids.getD j 0) ∧ j < os.length := fun {j} hj => by
  have hj : j < os.length := Nat.le_of_ble_eq_true hj
  have h1 : ids[j]? = some ids[j] := List.getElem?_eq_getElem (by omega)
  exact ⟨by simp [List.getD, h1], hj⟩
 have find : ∀ {j : Nat} {o : AObj}, hget (number 0 os) j = some o → hget σ (ids.getD j 0) = some (unO ids o) := fun {j o} ho => by
  rw [hget_number0] at ho
  obtain ⟨id, h1, h2, _⟩ := hos_at (β := β) hos ho
  simpa [List.getD, h1] using h2
 induction h with
 | rv r c hr =>
  intro x hx hc
  cases x <;> simp only [unA] at hx
  all_goals first
   | (split at hx <;> cases hx; done)
   | (cases hx; done)
   | (cases hx; exact .rv _ _ hr)
 | agg cs c h1 _ ih =>
  intro x hx hc
  cases x <;> simp only [unA] at hx
  all_goals first
   | (split at hx <;> cases hx; done)
   | (cases hx; done)
   | skip
  case agg cs0 =>
   simp only [AV.agg.injEq] at hx
   subst hx
   refine .agg _ c (by rw [unL_length] at h1; exact h1) fun j x hj => ih j _ (unL_get ids hj) x rfl (closL_at (by simpa [closA] using hc) hj)
 | tuple cs c h1 _ ih =>
  intro x hx hc
  cases x <;> simp only [unA] at hx
  all_goals first
   | (split at hx <;> cases hx; done)
   | (cases hx; done)
   | skip
  case tuple cs0 =>
   simp only [AV.tuple.injEq] at hx
   subst hx
   refine .tuple _ c (by rw [unL_length] at h1; exact h1) fun j x hj => ih j _ (unL_get ids hj) x rfl (closL_at (by simpa [closA] using hc) hj)
 | ptr id off c hl hp =>
  intro x hx hc
  cases x <;> simp only [unA] at hx
  all_goals first
   | (split at hx <;> cases hx; done)
   | (cases hx; done)
   | skip
  case ptr j off' =>
   obtain ⟨n1, n2⟩ := nm (by simpa [closA] using hc)
   rw [n1] at hx
   cases hx
   exact .ptr j off c n2 fun t cs hg => hp t _ (find hg)
 | eptr id i off c hl hp =>
  intro x hx hc
  cases x <;> simp only [unA] at hx
  all_goals first
   | (split at hx <;> cases hx; done)
   | (cases hx; done)
   | skip
  case eptr j i' off' =>
   obtain ⟨n1, n2⟩ := nm (by simpa [closA] using hc)
   rw [n1] at hx
   cases hx
   exact .eptr j i off c n2 fun z t n es hg => hp z t n es (find hg)
 | sl id c hl hp =>
  intro x hx hc
  cases x <;> simp only [unA] at hx
  all_goals first
   | (split at hx <;> cases hx; done)
   | (cases hx; done)
   | skip
  case sl j =>
   obtain ⟨n1, n2⟩ := nm (by simpa [closA] using hc)
   rw [n1] at hx
   cases hx
   exact .sl j c n2 fun z t n es hg => hp z t n es (find hg)
 | fn f p q c d h1 h2 _ _ ih1 ih2 =>
  intro x hx hc
  cases x <;> simp only [unA] at hx
  all_goals first
   | (split at hx <;> cases hx; done)
   | (cases hx; done)
   | skip
  case fn f' p' q' =>
   simp only [AV.fn.injEq] at hx
   obtain ⟨rfl, rfl, rfl⟩ := hx
   simp only [closA, Bool.and_eq_true] at hc
   exact .fn _ _ _ c d (by rw [unL_length] at h1; exact h1) (by rw [unL_length] at h2; exact h2) (fun j x hj => ih1 j _ (unL_get ids hj) x rfl (closL_at hc.1 hj)) (fun j x hj => ih2 j _ (unL_get ids hj) x rfl (closL_at hc.2 hj))
 | ref id c hl hp =>
  intro x hx hc
  cases x <;> simp only [unA] at hx
  all_goals first
   | (split at hx <;> cases hx; done)
   | (cases hx; done)
   | skip
  case ref j =>
   obtain ⟨n1, n2⟩ := nm (by simpa [closA] using hc)
   rw [n1] at hx
   cases hx
   exact .ref j c n2 fun Φ hg => hp Φ (find hg)
 | top c =>
  intro x hx hc
  cases x <;> simp only [unA] at hx
  all_goals first
   | exact .top c
   | (cases hx; done)
   | (obtain ⟨n1, _⟩ := nm (by simpa [closA] using hc); rw [n1] at hx; cases hx)
theorem ren_rel2 (hos : ids.map (hget σ) = os.map fun o => some (unO ids o)) {x : AV} {c : Value} (h : ARel w ro σ β N x c) : ARel w ro (number 0 os) (hand β ids) os.length (renA ids x) c := by
 have hlen : ids.length = os.length := by simpa using congrArg List.length hos
 have at_ : ∀ {id j : Nat}, idxOf ids id = some j → j < os.length ∧ hand β ids j = β id ∧ ∀ o, hget (number 0 os) j = some o → hget σ id = some (unO ids o) := by
  intro id j hj
  have h1 := idxOf_some hj
  have hjl : j < ids.length := (List.getElem?_eq_some_iff.1 h1).1
  refine ⟨by omega, by simp [hand, List.getD, h1], fun o ho => ?_⟩
  rw [hget_number0] at ho
  obtain ⟨id', g1, g2, _⟩ := hos_at (β := β) hos ho
  rw [h1] at g1
  cases g1
  exact g2
 induction h with
 | rv x c h => exact .rv x c h
 | agg cs c h1 _ ih =>
  refine .agg _ c (by rw [renL_length]; exact h1) fun j x hj => ?_
  obtain ⟨y, hy, rfl⟩ := renL_at _ hj
  exact ih j y hy
 | tuple cs c h1 _ ih =>
  refine .tuple _ c (by rw [renL_length]; exact h1) fun j x hj => ?_
  obtain ⟨y, hy, rfl⟩ := renL_at _ hj
  exact ih j y hy
 | ptr id off c hl hp =>
  simp only [renA]
  split
  ·rename_i j hj
   obtain ⟨a1, a2, a3⟩ := at_ hj
   exact .ptr j off c a1 fun t cs hg => by rw [a2]; exact hp t _ (a3 _ hg)
  ·exact .top c
 | eptr id i off c hl hp =>
  simp only [renA]
  split
  ·rename_i j hj
   obtain ⟨a1, a2, a3⟩ := at_ hj
   exact .eptr j i off c a1 fun z t n es hg => by rw [a2]; exact hp z t n es (a3 _ hg)
  ·exact .top c
 | sl id c hl hp =>
  simp only [renA]
  split
  ·rename_i j hj
   obtain ⟨a1, a2, a3⟩ := at_ hj
   exact .sl j c a1 fun z t n es hg => by rw [a2]; exact hp z t n es (a3 _ hg)
  ·exact .top c
 | fn f p q c d h1 h2 _ _ ih1 ih2 =>
  refine .fn f _ _ c d (by rw [renL_length]; exact h1) (by rw [renL_length]; exact h2) (fun j x hj => ?_) (fun j x hj => ?_)
  ·obtain ⟨y, hy, rfl⟩ := renL_at _ hj
   exact ih1 j y hy
  ·obtain ⟨y, hy, rfl⟩ := renL_at _ hj
   exact ih2 j y hy
 | ref id c hl hp =>
  simp only [renA]
  split
  ·rename_i j hj
   obtain ⟨a1, a2, a3⟩ := at_ hj
   exact .ref j c a1 fun Φ hg => by rw [a2]; exact hp Φ (a3 _ hg)
  ·exact .top c
 | top c => exact .top c
theorem hand_heap2 (hh : HRel w ro σ β N) (hos : ids.map (hget σ) = os.map fun o => some (unO ids o)) (hnd : ids.Nodup) (hp : ∀ o ∈ os, closO os.length o = true) : HRel w ro (number 0 os) (hand β ids) os.length := by
 have at_ : ∀ {j : Nat} {o : AObj}, hget (number 0 os) j = some o → ∃ id, ids[j]? = some id ∧ hget σ id = some (unO ids o) ∧ hand β ids j = β id ∧ closO os.length o = true := by
  intro j o ho
  rw [hget_number0] at ho
  obtain ⟨id, h1, h2, h3⟩ := hos_at (β := β) hos ho
  exact ⟨id, h1, h2, h3, hp o (List.mem_of_getElem? ho)⟩
 refine ⟨fun j o ho => ?_, fun j j' o o' b ho ho' hl hl' hb hb' => ?_, fun b hb => ?_, hh.lt⟩
 ·obtain ⟨id, _, h2, h3, h4⟩ := at_ ho
  have hoo := hh.objs id _ h2
  cases o with
  | box t cs =>
   cases hoo with
   | box _ _ b arr e1 e2 e3 e4 => exact .box t cs b arr (h3.trans e1) e2 (by rw [e3, unL_length]) fun i x hi => un_rel hos (e4 i _ (unL_get ids hi)) x rfl (closL_at (by simpa [closO] using h4) hi)
  | row fz t n es =>
   cases hoo with
   | row _ _ _ xs e1 e2 e3 => exact .row t n es xs (by rw [h3]; exact e1) e2 e3
   | fro _ _ _ e1 => simp [closO] at h4
  | oth Φ =>
   cases hoo with
   | oth _ b o e1 e2 e3 => exact .oth Φ b o (by rw [h3]; exact e1) e2 (by rw [h3]; exact e3)
 ·obtain ⟨id, h1, h2, h3, h4⟩ := at_ ho
  obtain ⟨id', h1', h2', h3', h4'⟩ := at_ ho'
  rw [h3] at hb
  rw [h3'] at hb'
  have hid := hh.inj id id' _ _ b h2 h2' (by rw [unO_live]; exact hl) (by rw [unO_live]; exact hl') hb hb'
  subst hid
  exact (List.getElem?_inj (List.getElem?_eq_some_iff.1 h1).1 hnd).1 (h1.trans h1'.symm)
 ·rintro ⟨j, o, ho, hl, hbk⟩
  obtain ⟨id, h1, h2, h3, h4⟩ := at_ ho
  rw [h3] at hbk
  exact hh.disj b hb ⟨id, _, h2, by rw [unO_live]; exact hl, hbk⟩
end

section
variable {P : Program} {G : Glob} {s : St}
theorem OpStep.callX {o : Oper} {x : Operand} {xs : Array Operand} {ts : Array TypeId} (ho : o.op = .call { callee := .value x, args := xs, argTypes := ts }) {f : FuncId} {p q : List AV} (hx : aval G s x = .fn (.func f) p q) (hcb : callable P f = true)
    {ids : List Nat} {os os' : List AObj} (hos : ids.map (hget s.heap) = os.map fun o => some (unO ids o)) (hnd : ids.Nodup) (hp : ∀ o ∈ os, closO os.length o = true) (hp' : ∀ o ∈ os', closO os.length o = true) (hk : kindsO os os' = true)
    {args : List AV} (hargs : (p ++ xs.toList.map (aval G s) ++ q).map (fun y => renA ids (viewA s.heap y)) = args) {r : AV} (hc : ACalls P G f args (number 0 os) os.length fun r1 τ1 => r1 = r ∧ τ1 = number 0 os') (hr : pureA r = true) :
    OpStep P G o s ({ s with heap := putH s.heap ids (os'.map (unO ids)) }.put o.dst r) := by
  intro E a w ⟨β, ro, h⟩ KK QQ hKK
  have hfx := h.eval x
  rw [hx] at hfx
  generalize he : a.eval x = fv at hfx
  cases hfx with
  | fn _ _ _ c d h1 h2 hpp hqq =>
    unfold Oper.wp
    simp only [execOp, ho, resolve, he, Deferred.ofValue, Sem.run_bind, Sem.run_pure, Result.andThen_ok, invoke]
    rw [callable_run hcb]
    have hlen : args.length = p.length + xs.size + q.length := by rw [← hargs]; simp [Nat.add_assoc]
    have hall : ∀ i y, (p ++ xs.toList.map (aval G s) ++ q)[i]? = some y → ARel w ro s.heap β s.next y ((c ++ xs.map a.eval ++ d).getD i undef) := fun i y hy => by
      rw [Array.getD_eq_getD_getElem?]
      rcases Nat.lt_or_ge i (p.length + xs.size) with hi | hi
      · rw [List.getElem?_append_left (by simpa using hi)] at hy
        rw [Array.getElem?_append_left (by simpa [h1] using hi)]
        rcases Nat.lt_or_ge i p.length with hi2 | hi2
        · rw [List.getElem?_append_left hi2] at hy
          rw [Array.getElem?_append_left (by omega), ← Array.getD_eq_getD_getElem?]
          exact hpp i y hy
        · rw [List.getElem?_append_right hi2, List.getElem?_map] at hy
          rw [Array.getElem?_append_right (by omega), h1]
          cases hz : xs.toList[i - p.length]? with
          | none => simp [hz] at hy
          | some z =>
            simp only [hz, Option.map_some, Option.some.injEq] at hy
            subst hy
            have hz' : xs[i - p.length]? = some z := by simpa using hz
            simp only [Array.getElem?_map, hz', Option.map_some, Option.getD_some]
            exact h.eval z
      · rw [List.getElem?_append_right (by simpa using hi)] at hy
        rw [Array.getElem?_append_right (by simpa [h1] using hi), ← Array.getD_eq_getD_getElem?]
        have := hqq _ y hy
        simpa [h1] using this
    have hil : ids.length = os.length := by simpa using congrArg List.length hos
    have hkl := kindsO_len hk
    have hcall := hc w (hand β ids) ro (c ++ xs.map a.eval ++ d) (by simp only [Array.size_append, Array.size_map]; omega) (fun i y hy => by
        rw [← hargs, List.getElem?_map] at hy
        cases hz : (p ++ xs.toList.map (aval G s) ++ q)[i]? with
        | none => rw [hz] at hy; cases hy
        | some z =>
          rw [hz] at hy
          simp only [Option.map_some, Option.some.injEq] at hy
          subst hy
          exact ren_rel2 hos (viewA_rel h.heap (hall i z hz))) (hand_heap2 h.heap hos hnd hp) h.glob (fun id q hq => by rw [hget_number0] at hq; exact (List.getElem?_eq_some_iff.1 hq).1)
    refine Calls.mono hcall fun e w' hq => ?_
    obtain ⟨v, r', τ', β', ro', n', rfl, ⟨rfl, rfl⟩, hrel, hh', ht'⟩ := hq
    -- the caller's names of what was handed
    have at_ : ∀ {id j : Nat}, idxOf ids id = some j → ∃ q q', os[j]? = some q ∧ os'[j]? = some q' ∧ hget s.heap id = some (unO ids q) ∧ hand β ids j = β id ∧ β' j = β id ∧ closO os.length q = true ∧ closO os.length q' = true ∧ kindO q q' = true := by
      intro id j hj
      have g1 := idxOf_some hj
      have hjl : j < ids.length := (List.getElem?_eq_some_iff.1 g1).1
      have g2 : os[j]? = some os[j] := List.getElem?_eq_getElem (by omega)
      have g3 : os'[j]? = some os'[j] := List.getElem?_eq_getElem (by omega)
      have g4 := congrArg (·[j]?) hos
      simp only [List.getElem?_map, g1, g2, Option.map_some, Option.some.injEq] at g4
      have g5 : hand β ids j = β id := by simp [hand, List.getD, g1]
      have g6 := (ht'.old j (by show j < os.length; omega) os'[j] (by rw [hget_number0]; exact g3)).2
      exact ⟨_, _, g2, g3, g4, g5, g6.trans g5, hp _ (List.mem_of_getElem? g2), hp' _ (List.mem_of_getElem? g3), kindsO_at hk g2 g3⟩
    have look : ∀ id, hget (putH s.heap ids (os'.map (unO ids))) id = match idxOf ids id with | some j => (os'.map (unO ids))[j]? | none => hget s.heap id := hget_putH s.heap ids (os'.map (unO ids)) (by rw [List.length_map]; omega)
    have g2m : ∀ {j : Nat} {q' : AObj}, os'[j]? = some q' → (os'.map (unO ids))[j]? = some (unO ids q') := fun h => by rw [List.getElem?_map, h]; rfl
    -- an own block is not handed, or it is one of the handed
    have ownH : ∀ b, Own (number 0 os) (hand β ids) b → ∃ id j, idxOf ids id = some j ∧ blk (β id) = some b := by
      rintro b ⟨j, q, hq, hl, hbk⟩
      rw [hget_number0] at hq
      have hjl : j < ids.length := by rw [hil]; exact (List.getElem?_eq_some_iff.1 hq).1
      have g1 : ids[j]? = some ids[j] := List.getElem?_eq_getElem hjl
      cases hi : idxOf ids ids[j] with
      | none => exact absurd g1 (idxOf_none hi j)
      | some i => exact ⟨ids[j], i, hi, by rw [← hbk]; simp [hand, List.getD, g1]⟩
    have ownLt : ∀ k p b, hget s.heap k = some p → p.live = true → blk (β k) = some b → b < w.heap.size := fun k p b hk hp hbk => (h.heap.objs k p hk).blkLt hp hbk
    have noH : ∀ {id : Nat} {p : AObj} {b : Nat}, idxOf ids id = none → hget s.heap id = some p → p.live = true → blk (β id) = some b → ¬ Own (number 0 os) (hand β ids) b := by
      intro id p b hn hg hl hbk hown
      obtain ⟨id', j, hj, hbk'⟩ := ownH b hown
      obtain ⟨q, _, _, _, g3, _, _, g6, _⟩ := at_ hj
      have := h.heap.inj id id' p _ b hg g3 hl (by rw [unO_live]; exact closO_live g6) hbk hbk'
      subst this
      rw [hn] at hj
      cases hj
    have hframe : ∀ b, b < w.heap.size → ¬ Own (number 0 os) (hand β ids) b → w'.heap[b]? = w.heap[b]? := fun b hb hn => ht'.frame b hb hn
    have hro : ∀ b, ro b → w'.heap[b]? = w.heap[b]? := fun b hb => hframe b (h.heap.lt b hb) fun hown => by
      obtain ⟨id', j, hj, hbk'⟩ := ownH b hown
      obtain ⟨q, _, _, _, g3, _, _, g6, _⟩ := at_ hj
      exact h.heap.disj b hb ⟨id', _, g3, by rw [unO_live]; exact closO_live g6, hbk'⟩
    have hroS : ∀ b, ro' b → ro b ∨ w.heap.size ≤ b := fun b hb => by
      rcases ht'.roSub b hb with hc | hc | hc
      · exact .inl hc
      · obtain ⟨id', j, hj, hbk'⟩ := ownH b hc
        obtain ⟨_, q', _, g2, _, _, g5, _, g7, _⟩ := at_ hj
        exact absurd ⟨j, q', by rw [hget_number0]; exact g2, closO_live g7, by rw [g5]; exact hbk'⟩ (hh'.disj b hb)
      · exact .inr hc
    have up : ∀ x c, ARel w ro s.heap β s.next x c → ARel w' ro' (putH s.heap ids (os'.map (unO ids))) β s.next x c := fun x c hx =>
      hx.keep hro ht'.roKeep (Nat.le_refl _)
        (fun id t cs hg => ⟨rfl, by
          rw [look] at hg
          split at hg
          · rename_i j hj
            obtain ⟨q, q', _, g2, g3, _, _, _, _, gk⟩ := at_ hj
            rw [g2m g2] at hg
            cases q' with
            | box t0 cs0 =>
              cases q with
              | box t' cs' => exact ⟨t', _, g3⟩
              | row => cases gk
              | oth => cases gk
            | row => cases hg
            | oth => cases hg
          · exact ⟨t, cs, hg⟩⟩)
        (fun id z t n es hg => ⟨rfl, by
          rw [look] at hg
          split at hg
          · rename_i j hj
            obtain ⟨q, q', _, g2, g3, _, _, _, _, gk⟩ := at_ hj
            rw [g2m g2] at hg
            cases q' with
            | row z0 t0 n0 es0 =>
              simp only [unO, Option.some.injEq, AObj.row.injEq] at hg
              obtain ⟨rfl, rfl, rfl, rfl⟩ := hg
              cases q with
              | row z' t' n' es' =>
                have := Nat.eq_of_beq_eq_true (show Nat.beq n' n0 = true from gk)
                subst this
                exact ⟨z', t', es', g3⟩
              | box => cases gk
              | oth => cases gk
            | box => cases hg
            | oth => cases hg
          · exact ⟨z, t, es, hg⟩⟩)
        (fun id Φ hg => ⟨rfl, by
          rw [look] at hg
          split at hg
          · rename_i j hj
            obtain ⟨q, q', _, g2, g3, _, _, _, _, gk⟩ := at_ hj
            rw [g2m g2] at hg
            cases q' with
            | oth Φ0 =>
              cases q with
              | oth Φ' => exact ⟨Φ', g3⟩
              | row => cases gk
              | box => cases gk
            | row => cases hg
            | box => cases hg
          · exact ⟨Φ, hg⟩⟩)
    have live' : ∀ {id : Nat} {p : AObj}, hget (putH s.heap ids (os'.map (unO ids))) id = some p → p.live = true → ∃ q, hget s.heap id = some q ∧ q.live = true := by
      intro id p hg hl
      rw [look] at hg
      split at hg
      · rename_i j hj
        obtain ⟨q, _, _, _, g3, _, _, g6, _⟩ := at_ hj
        exact ⟨_, g3, by rw [unO_live]; exact closO_live g6⟩
      · exact ⟨p, hg, hl⟩
    -- what the callee's names stand for, for the caller
    have back : ∀ x c, ARel w' ro' (number 0 os') β' n' x c → ARel w' ro' (putH s.heap ids (os'.map (unO ids))) β s.next (unA ids x) c := by
      have nm : ∀ {j id : Nat}, ids[j]? = some id → idxOf ids id = some j ∧ id < s.next ∧ (∀ o, hget (putH s.heap ids (os'.map (unO ids))) id = some o → ∃ q', hget (number 0 os') j = some q' ∧ o = unO ids q') ∧ β' j = β id := by
        intro j id hj
        have hjl : j < ids.length := (List.getElem?_eq_some_iff.1 hj).1
        have hi : idxOf ids id = some j := by
          cases hi : idxOf ids id with
          | none => exact absurd hj (idxOf_none hi j)
          | some i =>
            have := idxOf_some hi
            rw [(List.getElem?_inj (List.getElem?_eq_some_iff.1 hj).1 hnd).1 (hj.trans this.symm)]
        obtain ⟨q, q', g1, g2, g3, _, g5, _⟩ := at_ hi
        refine ⟨hi, h.trans.new id _ g3, fun o ho => ?_, g5⟩
        rw [look, hi] at ho
        dsimp only at ho
        rw [g2m g2] at ho
        exact ⟨q', by rw [hget_number0]; exact g2, (Option.some.inj ho).symm⟩
      intro x c hx
      induction hx with
      | rv x c hx => exact .rv x c hx
      | agg cs c h1 _ ih =>
        refine .agg _ c (by rw [unL_length]; exact h1) fun j x hj => ?_
        obtain ⟨y, hy, rfl⟩ := unL_at _ hj
        exact ih j y hy
      | tuple cs c h1 _ ih =>
        refine .tuple _ c (by rw [unL_length]; exact h1) fun j x hj => ?_
        obtain ⟨y, hy, rfl⟩ := unL_at _ hj
        exact ih j y hy
      | ptr j off c hl hp =>
        simp only [unA]
        split
        · rename_i id hj
          obtain ⟨_, n2, n3, n4⟩ := nm hj
          refine .ptr id off c n2 fun t cs hg => ?_
          obtain ⟨q', m1, m2⟩ := n3 _ hg
          cases q' with
          | box t0 cs0 => rw [← n4]; exact hp t0 cs0 m1
          | row => cases m2
          | oth => cases m2
        · exact .top c
      | eptr j i off c hl hp =>
        simp only [unA]
        split
        · rename_i id hj
          obtain ⟨_, n2, n3, n4⟩ := nm hj
          refine .eptr id i off c n2 fun z t n es hg => ?_
          obtain ⟨q', m1, m2⟩ := n3 _ hg
          cases q' with
          | row z0 t0 n0 es0 =>
            simp only [unO, AObj.row.injEq] at m2
            obtain ⟨rfl, rfl, rfl, rfl⟩ := m2
            rw [← n4]
            exact hp _ _ _ _ m1
          | box => cases m2
          | oth => cases m2
        · exact .top c
      | sl j c hl hp =>
        simp only [unA]
        split
        · rename_i id hj
          obtain ⟨_, n2, n3, n4⟩ := nm hj
          refine .sl id c n2 fun z t n es hg => ?_
          obtain ⟨q', m1, m2⟩ := n3 _ hg
          cases q' with
          | row z0 t0 n0 es0 =>
            simp only [unO, AObj.row.injEq] at m2
            obtain ⟨rfl, rfl, rfl, rfl⟩ := m2
            rw [← n4]
            exact hp _ _ _ _ m1
          | box => cases m2
          | oth => cases m2
        · exact .top c
      | fn f p q c d h1 h2 _ _ ih1 ih2 =>
        refine .fn f _ _ c d (by rw [unL_length]; exact h1) (by rw [unL_length]; exact h2) (fun j x hj => ?_) (fun j x hj => ?_)
        · obtain ⟨y, hy, rfl⟩ := unL_at _ hj
          exact ih1 j y hy
        · obtain ⟨y, hy, rfl⟩ := unL_at _ hj
          exact ih2 j y hy
      | ref j c hl hp =>
        simp only [unA]
        split
        · rename_i id hj
          obtain ⟨_, n2, n3, n4⟩ := nm hj
          refine .ref id c n2 fun Φ hg => ?_
          obtain ⟨q', m1, m2⟩ := n3 _ hg
          cases q' with
          | oth Φ0 => rw [← n4]; exact hp Φ0 m1
          | row => cases m2
          | box => cases m2
        · exact .top c
      | top c => exact .top c
    refine hKK _ _ ⟨β, ro', RelAt.put (s := { s with heap := putH s.heap ids (os'.map (unO ids)) }) ⟨h.defers, h.size, fun i x hx => up _ _ (h.slot i x hx), ⟨fun id p hg => ?_, fun id id' p p' b hg hg' hl hl' hb hb' => ?_, fun b hb => ?_, fun b hb => hh'.lt b hb⟩, h.glob.keep hro ht'.roKeep, ?_, h.base⟩ o.dst _ _ (pure_rel hrel hr)⟩
    · rw [look] at hg
      split at hg
      · rename_i j hj
        obtain ⟨q, q', _, g2, g3, _, g5, _, g7, _⟩ := at_ hj
        rw [g2m g2] at hg
        simp only [Option.some.injEq] at hg
        subst hg
        have hoo := hh'.objs j q' (by rw [hget_number0]; exact g2)
        cases hoo with
        | box t cs b arr e1 e2 e3 e4 =>
          refine .box t _ b arr (by rw [← g5]; exact e1) e2 (by rw [unL_length]; exact e3) fun i x hi => ?_
          obtain ⟨y, hy, rfl⟩ := unL_at _ hi
          exact back _ _ (e4 i y hy)
        | row t n es xs e1 e2 e3 => exact .row t n es xs (by rw [← g5]; exact e1) e2 e3
        | fro t n es e1 => simp [closO] at g7
        | oth Φ b o e1 e2 e3 => exact .oth Φ b o (by rw [← g5]; exact e1) e2 (by rw [← g5]; exact e3)
      · rename_i hn
        have hoo := h.heap.objs id p hg
        cases hoo with
        | box t cs b arr e1 e2 e3 e4 =>
          have hbk : blk (β id) = some b := by rw [e1]; rfl
          exact .box t cs b arr e1 ((hframe b (ownLt id _ b hg rfl hbk) (noH hn hg rfl hbk)).trans e2) e3 fun j x hj => up _ _ (e4 j x hj)
        | row t n es xs e1 e2 e3 =>
          exact .row t n es xs (e1.keep fun b hb => hframe b (e1.blkLt hb).1 (noH hn hg rfl hb)) e2 fun j x hj => (e3 j x hj).keep hro ht'.roKeep
        | fro t n es e1 => exact .fro t n es (e1.keep hro ht'.roKeep)
        | oth Φ b o e1 e2 e3 =>
          exact .oth Φ b o e1 ((hframe b (Array.getElem?_eq_some_iff.1 e2).1 (noH hn hg rfl e1)).trans e2) (Φ.mono _ _ _ _ (fun x c h => h.keep hro ht'.roKeep) e3)
    · obtain ⟨q, hq, hql⟩ := live' hg hl
      obtain ⟨q', hq', hql'⟩ := live' hg' hl'
      exact h.heap.inj id id' q q' b hq hq' hql hql' hb hb'
    · rintro ⟨id, p, hg, hl, hbk⟩
      obtain ⟨q, hq, hql⟩ := live' hg hl
      rcases hroS b hb with hc | hc
      · exact h.heap.disj b hc ⟨id, q, hq, hql, hbk⟩
      · have := ownLt id q b hq hql hbk
        omega
    · have t := h.trans
      refine ⟨ht'.os.trans t.os, ht'.tape.trans t.tape, ht'.output.trans t.output, Nat.le_trans t.size ht'.size, fun b hbl hno => ?_, fun b hb => ?_, fun b hb => ht'.roKeep b (t.roKeep b hb), ?_, ?_, ?_, t.le⟩
      · refine (hframe b (Nat.lt_of_lt_of_le hbl t.size) fun hown => ?_).trans (t.frame b hbl hno)
        obtain ⟨id', j, hj, hbk'⟩ := ownH b hown
        obtain ⟨q, _, _, _, g3, _, _, g6, _⟩ := at_ hj
        rcases t.ownSub b ⟨id', _, g3, by rw [unO_live]; exact closO_live g6, hbk'⟩ with hc | hc
        · exact hno hc
        · omega
      · rcases hroS b hb with hc | hc
        · exact t.roSub b hc
        · exact .inr (.inr (Nat.le_trans t.size hc))
      · rintro b ⟨id, p, hg, hl, hbk⟩
        obtain ⟨q, hq, hql⟩ := live' hg hl
        exact t.ownSub b ⟨id, q, hq, hql, hbk⟩
      · intro id hid p hg
        rw [look] at hg
        split at hg
        · rename_i j hj
          obtain ⟨q, _, _, _, g3, _⟩ := at_ hj
          exact t.old id hid _ g3
        · exact t.old id hid p hg
      · intro id p hg
        rw [look] at hg
        split at hg
        · rename_i j hj
          obtain ⟨q, _, _, _, g3, _⟩ := at_ hj
          exact t.new id _ g3
        · exact t.new id p hg
theorem AOps.callX {Q : Exit → St → Prop} {ops : Array Oper} {o : Oper} {rest : List Oper} (f : FuncId) (p q : List AV) (ids : List Nat) (os os' : List AObj) (x : Operand) (xs : List Operand) (args : List AV) (r : AV)
    (hc : ACalls P G f args (number 0 os) os.length fun r1 τ1 => r1 = r ∧ τ1 = number 0 os') (k : AOps P G ops Q rest ({ s with heap := putH s.heap ids (os'.map (unO ids)) }.put o.dst r))
    (hg : gwant ops s o = some true := by as_aux_lemma => kernel_rfl) (ho : callOf o = some (x, xs) := by as_aux_lemma => kernel_rfl) (hx : aval G s x = .fn (.func f) p q := by as_aux_lemma => kernel_rfl)
    (hcb : callable P f = true := by as_aux_lemma => kernel_rfl) (hos : ids.map (hget s.heap) = os.map (fun o => some (unO ids o)) := by as_aux_lemma => kernel_rfl) (hnd : nodupB ids = true := by as_aux_lemma => kernel_rfl)
    (hp : os.all (closO os.length) = true := by as_aux_lemma => kernel_rfl) (hp' : os'.all (closO os.length) = true := by as_aux_lemma => kernel_rfl) (hk : kindsO os os' = true := by as_aux_lemma => kernel_rfl)
    (hargs : (p ++ xs.map (aval G s) ++ q).map (fun y => renA ids (viewA s.heap y)) = args := by as_aux_lemma => kernel_rfl) (hr : pureA r = true := by as_aux_lemma => kernel_rfl) : AOps P G ops Q (o :: rest) s := by
  unfold callOf at ho
  split at ho
  · rename_i c hc'
    split at ho
    · rename_i y hy
      simp only [Option.some.injEq, Prod.mk.injEq] at ho
      obtain ⟨rfl, rfl⟩ := ho
      obtain ⟨callee, zs, ts⟩ := c
      simp only at hy
      subst hy
      exact AOps.step hg (OpStep.callX hc' hx hcb hos (nodupB_spec hnd) (List.all_eq_true.1 hp) (List.all_eq_true.1 hp') hk hargs hc hr) k
    · cases ho
  · cases ho
end
end Go.Av
