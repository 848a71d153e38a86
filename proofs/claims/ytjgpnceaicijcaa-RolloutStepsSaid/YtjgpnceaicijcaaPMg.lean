/- The AV calculus, part G: code, loops, the beginning and the end of a call. Conditions: none. -/
import Derived.Test.YtjgpnceaicijcaaPMf
namespace Go.Av
open Go

def lift (E : Entry) (G : Glob) (Q : Exit → St → Prop) : Exit → Act → World → Prop := fun e a w => ∃ s, Q e s ∧ Rel E G s a w

/-- From state s the code ends as Q says. -/
def AWp (P : Program) (G : Glob) (c : Code) (Q : Exit → St → Prop) (s : St) : Prop := ∀ E a w, Rel E G s a w → c.wp P (lift E G Q) a w

/-- From state s the operations that are left in the region end as Q says. -/
def AOps (P : Program) (G : Glob) (ops : Array Oper) (Q : Exit → St → Prop) (l : List Oper) (s : St) : Prop := ∀ E a w, Rel E G s a w → wpList P ops (lift E G Q) l a w

section
variable {P : Program} {G : Glob} {Q : Exit → St → Prop} {s : St}

theorem AWp.region {id : Nat} {l : List Oper} (h : AOps P G l.toArray Q l s) : AWp P G (.region id l.toArray false) Q s := fun E a w hr => wp_region_lit (h E a w hr)

theorem AOps.nil {ops : Array Oper} (h : Q .normal s) : AOps P G ops Q [] s := fun _ _ _ hr => wpList_nil ⟨s, h, hr⟩

theorem AOps.cons {ops : Array Oper} {o : Oper} {rest : List Oper} {s' : St} (hg : o.guard = none) (h : OpStep P G o s s') (k : AOps P G ops Q rest s') : AOps P G ops Q (o :: rest) s :=
  fun E a w hr => wpList_plain hg fun _ hK => h E a w hr _ _ fun a' w' hr' => hK a' w' (k E a' w' hr')

/-- The slot of the operation that a guard asks. -/
def gslot (ops : Array Oper) (j : Nat) : Option Nat := (ops[j]?).bind (·.dst)

theorem yielded_of {ops : Array Oper} {E : Entry} {a : Act} {w : World} (hr : Rel E G s a w) {j d : Nat} (hj : gslot ops j = some d) {b : Bool} (hd : s.slots[d]? = some (.rv (.v (.bool b)))) : yielded ops a.tmps j = some b := by
  obtain ⟨β, ro, h⟩ := hr
  have hs := ARel.val (h.slot d _ hd)
  have hlt : d < a.tmps.size := by rw [h.size]; exact (List.getElem?_eq_some_iff.1 hd).1
  unfold gslot at hj
  unfold yielded
  rw [hj]
  simp only [Option.bind_some]
  simp [hlt] at hs
  simp [hlt, hs]

theorem yielded_none {ops : Array Oper} {E : Entry} {a : Act} {w : World} (hr : Rel E G s a w) {j d : Nat} (hj : gslot ops j = some d) {cs : List AV} (hd : s.slots[d]? = some (.tuple cs)) : yielded ops a.tmps j = none := by
  obtain ⟨β, ro, h⟩ := hr
  have hs := h.slot d _ hd
  have hlt : d < a.tmps.size := by rw [h.size]; exact (List.getElem?_eq_some_iff.1 hd).1
  unfold gslot at hj
  unfold yielded
  rw [hj]
  simp only [Option.bind_some]
  simp [hlt] at hs
  generalize a.tmps[d] = c at hs
  have hq : a.tmps[d]? = some a.tmps[d] := by simp [hlt]
  have hs := h.slot d _ hd
  simp [hlt] at hs
  cases hs' : a.tmps[d] with
  | tuple x => simp [hq, hs']
  | _ => rw [hs'] at hs; cases hs

theorem AOps.guarded {ops : Array Oper} {o : Oper} {rest : List Oper} {s' : St} {j d : Nat} {b : Bool} (hg : o.guard = some (j, b)) (hj : gslot ops j = some d) (hd : s.slots[d]? = some (.rv (.v (.bool b))))
    (h : OpStep P G o s s') (k : AOps P G ops Q rest s') : AOps P G ops Q (o :: rest) s :=
  fun E a w hr => wpList_step fun _ hK => by
    have hy := yielded_of hr hj hd
    simp only [Region.wanted, hg, hy, beq_self_eq_true, if_true]
    exact h E a w hr _ _ fun a' w' hr' => hK a' w' (k E a' w' hr')

theorem Rel.putUndef {E : Entry} {a : Act} {w : World} (hr : Rel E G s a w) (dst : Option Nat) : Rel E G (s.put dst (.tuple [])) (a.put dst undef) w := by
  obtain ⟨β, ro, h⟩ := hr
  exact ⟨β, ro, h.put dst _ _ (.tuple _ _ rfl (by simp))⟩

theorem AOps.skipped {ops : Array Oper} {o : Oper} {rest : List Oper} {j d : Nat} {b : Bool} (hg : o.guard = some (j, b)) (hj : gslot ops j = some d) (hd : s.slots[d]? = some (.rv (.v (.bool (!b)))))
    (k : AOps P G ops Q rest (s.put o.dst (.tuple []))) : AOps P G ops Q (o :: rest) s :=
  fun E a w hr => by
    have hy := yielded_of hr hj hd
    refine wpList_skip ?_ (k E _ w (hr.putUndef o.dst))
    simp only [Region.wanted, hg, hy]
    cases b <;> rfl

theorem AOps.skippedN {ops : Array Oper} {o : Oper} {rest : List Oper} {j d : Nat} {b : Bool} (hg : o.guard = some (j, b)) (hj : gslot ops j = some d) {cs : List AV} (hd : s.slots[d]? = some (.tuple cs))
    (k : AOps P G ops Q rest (s.put o.dst (.tuple []))) : AOps P G ops Q (o :: rest) s :=
  fun E a w hr => by
    have hy := yielded_none hr hj hd
    refine wpList_skip ?_ (k E _ w (hr.putUndef o.dst))
    simp only [Region.wanted, hg, hy]
    cases b <;> rfl

def SeqQ (P : Program) (G : Glob) (c : Code) (Q : Exit → St → Prop) : Exit → St → Prop
  | .normal, s => AWp P G c Q s
  | e, s => Q e s

theorem AWp.seq {x y : Code} (h : AWp P G x (SeqQ P G y Q) s) : AWp P G (.seq x y) Q s := fun E a w hr => by
  refine wp_seq (wp_mono (h E a w hr) fun e a' w' hq => ?_)
  obtain ⟨s', h1, h2⟩ := hq
  cases e with
  | normal => exact h1 E a' w' h2
  | _ => exact ⟨s', h1, h2⟩

theorem AWp.cond {x : Operand} {c d : Code} {b : Bool} (hx : aval G s x = .rv (.v (.bool b))) (ht : b = true → AWp P G c Q s) (hf : b = false → AWp P G d Q s) : AWp P G (.cond x c d) Q s := fun E a w hr => by
  obtain ⟨β, ro, h⟩ := hr
  exact wp_cond_split (h.evalV hx) (fun e => ht e E a w ⟨β, ro, h⟩) (fun e => hf e E a w ⟨β, ro, h⟩)
theorem AWp.cond_t {x : Operand} {c d : Code} (hx : aval G s x = .rv (.v (.bool true))) (ht : AWp P G c Q s) : AWp P G (.cond x c d) Q s := AWp.cond hx (fun _ => ht) (fun h => by cases h)
theorem AWp.cond_f {x : Operand} {c d : Code} (hx : aval G s x = .rv (.v (.bool false))) (hf : AWp P G d Q s) : AWp P G (.cond x c d) Q s := AWp.cond hx (fun h => by cases h) (fun _ => hf)

theorem AWp.skip (h : Q .normal s) : AWp P G .skip Q s := fun _ _ _ hr => wp_skip ⟨s, h, hr⟩
theorem AWp.ret (h : Q .ret s) : AWp P G .ret Q s := fun _ _ _ hr => wp_ret ⟨s, h, hr⟩
theorem AWp.exit {id : Nat} (h : Q (.exit id) s) : AWp P G (.exit id) Q s := fun _ _ _ hr => wp_exit ⟨s, h, hr⟩
theorem AWp.mono {c : Code} {Q' : Exit → St → Prop} (h : AWp P G c Q s) (hq : ∀ e s, Q e s → Q' e s) : AWp P G c Q' s := fun E a w hr =>
  wp_mono (h E a w hr) fun e _ _ ⟨s', h1, h2⟩ => ⟨s', hq e s' h1, h2⟩

def BlockQ (id : Nat) (Q : Exit → St → Prop) : Exit → St → Prop
  | .exit id', s => bif Nat.beq id' id then Q .normal s else Q (.exit id') s
  | e, s => Q e s

theorem AWp.block {id : Nat} {c : Code} (h : AWp P G c (BlockQ id Q) s) : AWp P G (.block id c) Q s := fun E a w hr => by
  refine wp_block (wp_mono (h E a w hr) fun e a' w' hq => ?_)
  obtain ⟨s', h1, h2⟩ := hq
  cases e with
  | exit id' =>
    simp only [BlockQ, Exit.inBlock] at *
    split
    · rename_i he
      have hb : Nat.beq id' id = true := by simpa using he
      rw [hb] at h1
      exact ⟨s', h1, h2⟩
    · rename_i he
      have hb : Nat.beq id' id = false := by
        cases hq : Nat.beq id' id with
        | false => rfl
        | true => exact absurd (Nat.eq_of_beq_eq_true hq) he
      rw [hb] at h1
      exact ⟨s', h1, h2⟩
  | _ => exact ⟨s', h1, h2⟩

/-- State s may be taken for state s'. -/
def Le (s s' : St) : Prop := ∀ E (G : Glob) a w, Rel E G s a w → Rel E G s' a w
theorem Le.refl (s : St) : Le s s := fun _ _ _ _ h => h
theorem Le.trans {s s' s'' : St} (h : Le s s') (k : Le s' s'') : Le s s'' := fun E G a w hr => k E G a w (h E G a w hr)
theorem AWp.le {c : Code} {s' : St} (h : Le s s') (k : AWp P G c Q s') : AWp P G c Q s := fun E a w hr => k E a w (h E G a w hr)
theorem AOps.le {ops : Array Oper} {l : List Oper} {s' : St} (h : Le s s') (k : AOps P G ops Q l s') : AOps P G ops Q l s := fun E a w hr => k E a w (h E G a w hr)

/-- A loop: 'st': the state at a round's head; 'inv': what holds there; 'mu': what every round lowers. -/
theorem AWp.loop {ι : Type} (st : ι → St) (inv : ι → Prop) (mu : ι → Nat) {c : Code} (x : ι) (h0 : Le s (st x)) (hi : inv x)
    (round : ∀ x, inv x → AWp P G c (fun e s' => match e with
      | .normal => ∃ y, inv y ∧ mu y < mu x ∧ Le s' (st y)
      | e => Q e s') (st x)) : AWp P G (.loop c) Q s := fun E a w hr => by
  have key : ∀ n x, mu x = n → inv x → ∀ a w, Rel E G (st x) a w → (Code.loop c).wp P (lift E G Q) a w := by
    intro n x hn hx a w hr
    refine wp_loop (fun a w => ∃ y, inv y ∧ Rel E G (st y) a w) (fun a w => Classical.epsilon fun m => ∃ y, inv y ∧ Rel E G (st y) a w ∧ mu y = m ∧ ∀ z, inv z → Rel E G (st z) a w → m ≤ mu z) ⟨x, hx, hr⟩ ?_
    intro a w ⟨y0, hy0, hr0⟩
    have hex : ∃ m, ∃ y, inv y ∧ Rel E G (st y) a w ∧ mu y = m ∧ ∀ z, inv z → Rel E G (st z) a w → m ≤ mu z := by
      have : ∀ k y, mu y = k → inv y → Rel E G (st y) a w → ∃ m, ∃ y, inv y ∧ Rel E G (st y) a w ∧ mu y = m ∧ ∀ z, inv z → Rel E G (st z) a w → m ≤ mu z := by
        intro k
        induction k using Nat.strongRecOn with
        | _ k ih =>
          intro y hk hy hry
          by_cases hmin : ∀ z, inv z → Rel E G (st z) a w → mu y ≤ mu z
          · exact ⟨mu y, y, hy, hry, rfl, hmin⟩
          · simp only [Classical.not_forall] at hmin
            obtain ⟨z, hz, hrz, hlt⟩ := hmin
            exact ih (mu z) (by omega) z rfl hz hrz
      exact this _ y0 rfl hy0 hr0
    obtain ⟨y, hy, hry, hmy, _⟩ := Classical.epsilon_spec hex
    refine wp_mono (round y hy E a w hry) fun e a' w' hq => ?_
    obtain ⟨s', h1, h2⟩ := hq
    cases e with
    | normal =>
      obtain ⟨z, hz, hlt, hle⟩ := h1
      have hrz := hle E G a' w' h2
      refine ⟨⟨z, hz, hrz⟩, ?_⟩
      have hex' : ∃ m, ∃ y, inv y ∧ Rel E G (st y) a' w' ∧ mu y = m ∧ ∀ z, inv z → Rel E G (st z) a' w' → m ≤ mu z := by
        have : ∀ k y, mu y = k → inv y → Rel E G (st y) a' w' → ∃ m, ∃ y, inv y ∧ Rel E G (st y) a' w' ∧ mu y = m ∧ ∀ z, inv z → Rel E G (st z) a' w' → m ≤ mu z := by
          intro k
          induction k using Nat.strongRecOn with
          | _ k ih =>
            intro y hk hy hry
            by_cases hmin : ∀ z, inv z → Rel E G (st z) a' w' → mu y ≤ mu z
            · exact ⟨mu y, y, hy, hry, rfl, hmin⟩
            · simp only [Classical.not_forall] at hmin
              obtain ⟨z, hz, hrz, hlt⟩ := hmin
              exact ih (mu z) (by omega) z rfl hz hrz
        exact this _ z rfl hz hrz
      obtain ⟨_, _, _, _, hmin⟩ := Classical.epsilon_spec hex'
      have h3 := hmin z hz hrz
      rw [← hmy]
      exact Nat.lt_of_le_of_lt h3 hlt
    | _ => exact ⟨s', h1, h2⟩
  exact key _ x rfl hi a w (h0 E G a w hr)
end

/-- A call of function f: what it returns, and which own blocks it leaves. -/
def ACalls (P : Program) (G : Glob) (f : FuncId) (args : List AV) (σ : Heap) (n : Nat) (Q : AV → Heap → Prop) : Prop :=
  ∀ w β ro (cargs : Array Value), cargs.size = args.length → (∀ i x, args[i]? = some x → ARel w ro σ β n x (cargs.getD i undef)) → HRel w ro σ β n → GRel w ro G → (∀ id o, hget σ id = some o → id < n) →
    Calls P f cargs w fun e w' => ∃ v r σ' β' ro' n', e = .returned v ∧ Q r σ' ∧ ARel w' ro' σ' β' n' r v ∧ HRel w' ro' σ' β' n' ∧ Trans ⟨w, ro, σ, β, n⟩ w' ro' σ' β' n'

/-- The results that a function's end reads. -/
def ares (P : Program) (s : St) : List ResultVar → Option (List AV)
  | [] => some []
  | .tmp t :: r => match ares P s r with
    | some l => some (s.slots.getD t .top :: l)
    | none => none
  | .cell p t :: r => match ares P s r, acells s.heap (s.slots.getD p .top) with
    | some l, some cs => match aggSize P t with
      | some n => if n ≤ cs.length ∧ 0 < n then some (.agg (cs.take n) :: l) else none
      | none => if scalar P t then match cs with
        | y :: _ => some (y :: l)
        | [] => none
        else none
    | _, _ => none

def aresult (P : Program) (fn : Func) (s : St) : Option AV :=
  match ares P s fn.results.toList with
  | some [x] => some x
  | some l => some (.tuple l)
  | none => none

/-- The end of a body. -/
def RetQ (P : Program) (fn : Func) (Q : AV → Heap → Prop) : Exit → St → Prop := fun e s =>
  (e = .normal ∨ e = .ret) ∧ ∃ r σ', aresult P fn s = some r ∧ (∀ id o, hget σ' id = some o → hget s.heap id = some o) ∧ Q r σ'

theorem HRel.sub {w : World} {ro : Nat → Prop} {σ σ' : Heap} {β : Nat → Value} {N : Nat} (h : HRel w ro σ β N) (hs : ∀ id o, hget σ' id = some o → hget σ id = some o) : HRel w ro σ' β N := by
  refine ⟨fun id o hg => (h.objs id o (hs id o hg)).keep (fun _ _ => rfl) (fun _ h => h) (Nat.le_refl _) rfl (fun _ _ _ => rfl) (fun id t cs hg => ⟨rfl, t, cs, hs id _ hg⟩) (fun id z t n es hg => ⟨rfl, z, t, es, hs id _ hg⟩) (fun id Φ hg => ⟨rfl, Φ, hs id _ hg⟩),
    fun id id' o o' b h1 h2 => h.inj id id' o o' b (hs id o h1) (hs id' o' h2), fun b hb ⟨id, o, hg, hl, hbk⟩ => h.disj b hb ⟨id, o, hs id o hg, hl, hbk⟩, h.lt⟩

theorem ARel.sub {w : World} {ro : Nat → Prop} {σ σ' : Heap} {β : Nat → Value} {N : Nat} {x : AV} {c : Value} (h : ARel w ro σ β N x c) (hs : ∀ id o, hget σ' id = some o → hget σ id = some o) : ARel w ro σ' β N x c :=
  h.keep (fun _ _ => rfl) (fun _ h => h) (Nat.le_refl _) (fun id t cs hg => ⟨rfl, t, cs, hs id _ hg⟩) (fun id z t _ es hg => ⟨rfl, z, t, es, hs id _ hg⟩) (fun id Φ hg => ⟨rfl, Φ, hs id _ hg⟩)

theorem Trans.sub {E : Entry} {w : World} {ro : Nat → Prop} {σ σ' : Heap} {β : Nat → Value} {n : Nat} (h : Trans E w ro σ β n) (hs : ∀ id o, hget σ' id = some o → hget σ id = some o) : Trans E w ro σ' β n :=
  ⟨h.os, h.tape, h.output, h.size, h.frame, h.roSub, h.roKeep, fun b ⟨id, o, hg, hl, hbk⟩ => h.ownSub b ⟨id, o, hs id o hg, hl, hbk⟩, fun id hi o hg => h.old id hi o (hs id o hg), fun id o hg => h.new id o (hs id o hg), h.le⟩

section
variable {P : Program} {G : Glob}

def resOne (tmps : Array Value) : ResultVar → Sem Value
  | .tmp t => pure (tmps.getD t undef)
  | .cell p t => do
    let b ← asAddr (tmps.getD p undef)
    loadVar t b

theorem results_eq (fn : Func) (tmps : Array Value) : results fn tmps = (do
    let vs ← fn.results.mapM (resOne tmps)
    pure (if h : vs.size = 1 then vs[0] else .tuple vs)) := by
  unfold results
  have : (fun x => match x with
      | ResultVar.tmp t => (pure (tmps.getD t undef) : Sem Value)
      | ResultVar.cell p t => do
        let b ← asAddr (tmps.getD p undef)
        loadVar t b) = resOne tmps := by
    funext x
    cases x <;> rfl
  rw [← this]
  rfl

theorem ares_run {E : Entry} {s : St} {a : Act} {w : World} {β : Nat → Value} {ro : Nat → Prop} (h : RelAt E G s a w β ro) : ∀ {rs : List ResultVar} {l : List AV}, ares P s rs = some l →
    ∃ vs : List Value, (rs.mapM (resOne a.tmps)).run P w = .ok vs w ∧ vs.length = l.length ∧ ∀ j x, l[j]? = some x → ARel w ro s.heap β s.next x (vs.getD j undef)
  | [], l, hl => by
    simp [ares] at hl
    subst hl
    exact ⟨[], by simp, rfl, by simp⟩
  | .tmp t :: r, l, hl => by
    simp only [ares] at hl
    cases hr : ares P s r with
    | none => simp [hr] at hl
    | some l' =>
      simp only [hr, Option.some.injEq] at hl
      subst hl
      obtain ⟨vs, h1, h2, h3⟩ := ares_run h hr
      refine ⟨a.tmps.getD t undef :: vs, by simp only [List.mapM_cons, Sem.run_bind, resOne, Sem.run_pure, Result.andThen_ok, h1], by simp [h2], fun j x hj => ?_⟩
      cases j with
      | zero =>
        simp at hj
        subst hj
        exact h.eval (.tmp t)
      | succ j => exact h3 j x hj
  | .cell p t :: r, l, hl => by
    simp only [ares] at hl
    cases hr : ares P s r with
    | none => simp [hr] at hl
    | some l' =>
      cases hc : acells s.heap (s.slots.getD p .top) with
      | none => rw [hr, hc] at hl; cases hl
      | some cs =>
        rw [hr, hc] at hl
        simp only at hl
        obtain ⟨vs, h1, h2, h3⟩ := ares_run h hr
        have hev := h.eval (.tmp p)
        simp only [aval, Act.eval] at hev
        cases hag : aggSize P t with
        | some n =>
          simp only [hag] at hl
          split at hl
          · rename_i hn
            simp only [Option.some.injEq] at hl
            subst hl
            obtain ⟨ad, hce, f, hf⟩ := read_cells h.heap hc hev (by intro e; subst e; simp at hn; omega)
            obtain ⟨g1, g2⟩ := run_isAgg_agg hag w
            have hlc := run_loadCells (P := P) w ad n f (fun j hj => (hf j (cs[j]'(by omega)) (by simp)).1)
            refine ⟨.agg ((List.range n).map f).toArray :: vs, ?_, by simp [h2], fun j x hj => ?_⟩
            · simp only [List.mapM_cons, Sem.run_bind, resOne, hce, asAddr, Sem.run_pure, Result.andThen_ok, loadVar, g1, g2, if_true, hlc, h1]
            · cases j with
              | zero =>
                simp at hj
                subst hj
                refine .agg _ _ (by simp; omega) fun j y hj => ?_
                rw [List.getElem?_take] at hj
                split at hj
                · have := (hf j y hj).2
                  rename_i hjn
                  simpa [hjn] using this
                · cases hj
              | succ j => exact h3 j x hj
          · cases hl
        | none =>
          simp only [hag] at hl
          split at hl
          · rename_i hsc
            cases cs with
            | nil => simp at hl
            | cons y cs' =>
              simp only [Option.some.injEq] at hl
              subst hl
              obtain ⟨ad, hce, f, hf⟩ := read_cells h.heap hc hev (by simp)
              have g1 := run_isAgg_scalar hsc w
              obtain ⟨hcell, hrel⟩ := hf 0 y rfl
              rw [show ad.add 0 = ad from by simp [Addr.add]] at hcell
              refine ⟨f 0 :: vs, ?_, by simp [h2], fun j x hj => ?_⟩
              · simp only [List.mapM_cons, Sem.run_bind, resOne, hce, asAddr, Sem.run_pure, Result.andThen_ok, loadVar, g1]
                simp [run_load, hcell, h1]
              · cases j with
                | zero => simp at hj; subst hj; exact hrel
                | succ j => exact h3 j x hj
          · cases hl

theorem aresult_run {E : Entry} {s : St} {a : Act} {w : World} {β : Nat → Value} {ro : Nat → Prop} (h : RelAt E G s a w β ro) {fn : Func} {r : AV} (hr : aresult P fn s = some r) :
    ∃ v, (results fn a.tmps).run P w = .ok v w ∧ ARel w ro s.heap β s.next r v := by
  unfold aresult at hr
  cases ha : ares P s fn.results.toList with
  | none => simp [ha] at hr
  | some l =>
    rw [ha] at hr
    obtain ⟨vs, h1, h2, h3⟩ := ares_run h ha
    have hm : (fn.results.mapM (resOne a.tmps)).run P w = .ok vs.toArray w := by
      rw [Array.mapM_eq_mapM_toList]
      simp only [Sem.run_map, h1]
      first | rfl | simp
    have hres : (results fn a.tmps).run P w = .ok (if h : vs.toArray.size = 1 then vs.toArray[0] else .tuple vs.toArray) w := by
      rw [results_eq, Sem.run_bind, hm]
      rfl
    refine ⟨_, hres, ?_⟩
    match l, ha, hr, h2, h3 with
    | [x], _, hr, h2, h3 =>
      injection hr with hr
      subst hr
      have h2' : vs.toArray.size = 1 := by simpa using h2
      rw [dif_pos h2']
      have := h3 0 x rfl
      have hl0 : 0 < vs.length := by simp at h2'; omega
      simpa [List.getD, hl0] using this
    | [], _, hr, h2, h3 =>
      injection hr with hr
      subst hr
      have : vs = [] := List.eq_nil_of_length_eq_zero (by simpa using h2)
      subst this
      exact .tuple _ _ rfl (by simp)
    | x :: y :: l', _, hr, h2, h3 =>
      injection hr with hr
      subst hr
      rw [dif_neg (by simp at h2 ⊢; omega)]
      refine .tuple _ _ (by simpa using h2) fun j z hj => ?_
      have := h3 j z hj
      simpa [List.getD, Array.getD_eq_getD_getElem?] using this

/-- From the body to the call. -/
theorem ACalls.of_body {f : FuncId} {fn : Func} {c : Code} {args : List AV} {σ : Heap} {n k : Nat} {Q : AV → Heap → Prop} (hf : P.funcs[f]? = some fn) (hb : fn.body = some c) (hk : fn.ntmps - args.length = k)
    (h : AWp P G c (RetQ P fn Q) ⟨args ++ List.replicate k .top, σ, n, n⟩) : ACalls P G f args σ n Q := by
  intro w β ro cargs hsz hargs hh hg hlt
  refine calls_of_wp hf hb (wp_mono (h ⟨w, ro, σ, β, n⟩ _ w ⟨β, ro, rfl, ?_, ?_, hh, hg, ?_, Nat.le_refl _⟩) ?_)
  · simp [hsz, hk]
  · intro i x hi
    simp only at hi
    by_cases hlt' : i < args.length
    · rw [List.getElem?_append_left hlt'] at hi
      have := hargs i x hi
      have h1 : i < cargs.size := by omega
      simpa [Array.getElem?_append_left h1, h1, Array.getElem_append_left h1] using this
    · rw [List.getElem?_append_right (by omega)] at hi
      rw [List.getElem?_replicate] at hi
      split at hi
      · simp only [Option.some.injEq] at hi; subst hi; exact .top _
      · cases hi
  · exact ⟨rfl, rfl, rfl, Nat.le_refl _, fun _ _ _ => rfl, fun _ h => .inl h, fun _ h => h, fun _ h => .inl h, fun id _ o ho => ⟨by rw [ho]; simp, rfl⟩, hlt, Nat.le_refl _⟩
  · intro e a' w' ⟨s', hq, β', ro', hr⟩
    obtain ⟨he, r, σ', hres, hsub, hQ⟩ := hq
    obtain ⟨v, hv, hrel⟩ := aresult_run hr hres
    rcases he with rfl | rfl
    · exact ⟨hr.defers, v, hv, v, r, σ', β', ro', s'.next, rfl, hQ, hrel.sub hsub, hr.heap.sub hsub, hr.trans.sub hsub⟩
    · exact ⟨hr.defers, v, hv, v, r, σ', β', ro', s'.next, rfl, hQ, hrel.sub hsub, hr.heap.sub hsub, hr.trans.sub hsub⟩
end
end Go.Av
