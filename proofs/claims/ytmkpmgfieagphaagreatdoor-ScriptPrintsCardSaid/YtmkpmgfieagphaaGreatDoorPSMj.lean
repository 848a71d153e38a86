/- The AV calculus, part G: code, loops, the beginning and the end of a call. Conditions: none. -/
import Derived.Test.YtmkpmgfieagphaaGreatDoorPSMf
namespace Go.Av
open Go

def lift (E : Entry) (G : Glob) (Q : Exit → St → Prop) : Exit → Act → World → Prop := fun e a w => ∃ s, Q e s ∧ Rel E G s a w

def AWp (P : Program) (G : Glob) (c : Code) (Q : Exit → St → Prop) (s : St) : Prop := ∀ E a w, Rel E G s a w → c.wp P (lift E G Q) a w

def AOps (P : Program) (G : Glob) (ops : Array Oper) (Q : Exit → St → Prop) (l : List Oper) (s : St) : Prop := ∀ E a w, Rel E G s a w → wpList P ops (lift E G Q) l a w

section
variable {P : Program} {G : Glob} {Q : Exit → St → Prop} {s : St}

theorem AWp.region {id : Nat} {l : List Oper} (h : AOps P G l.toArray Q l s) : AWp P G (.region id l.toArray false) Q s := fun E a w hr => wp_region_lit (h E a w hr)

theorem AOps.nil {ops : Array Oper} (h : Q .normal s) : AOps P G ops Q [] s := fun _ _ _ hr => wpList_nil ⟨s, h, hr⟩

theorem AOps.cons {ops : Array Oper} {o : Oper} {rest : List Oper} {s' : St} (hg : o.guard = none) (h : OpStep P G o s s') (k : AOps P G ops Q rest s') : AOps P G ops Q (o :: rest) s :=
 fun E a w hr => wpList_plain hg fun _ hK => h E a w hr _ _ fun a' w' hr' => hK a' w' (k E a' w' hr')

def gslot (ops : Array Oper) (j : Nat) : Option Nat := (ops[j]?).bind (·.dst)

theorem yielded_of {ops : Array Oper} {E : Entry} {a : Act} {w : World} (hr : Rel E G s a w) {j d : Nat} (hj : gslot ops j = some d) {b : Bool} (hd : s.slots[d]? = some (.rv (.v (.bool b)))) : yielded ops a.tmps j = some b := by
 obtain ⟨β, ro, h⟩ := hr
 have hs := ARel.val (h.slot d _ hd)
 have hlt : d < a.tmps.size := by rw [h.size]; exact (List.getElem?_eq_some_iff.1 hd).1
 unfold gslot at hj
 unfold yielded
 rw [hj]
 simp only [Option.bind_some]
 simp [hlt] at hs
 simp [hlt, hs]

theorem yielded_none {ops : Array Oper} {E : Entry} {a : Act} {w : World} (hr : Rel E G s a w) {j d : Nat} (hj : gslot ops j = some d) {cs : List AV} (hd : s.slots[d]? = some (.tuple cs)) : yielded ops a.tmps j = none := by
 obtain ⟨β, ro, h⟩ := hr
 have hs := h.slot d _ hd
 have hlt : d < a.tmps.size := by rw [h.size]; exact (List.getElem?_eq_some_iff.1 hd).1
 unfold gslot at hj
 unfold yielded
 rw [hj]
 simp only [Option.bind_some]
 simp [hlt] at hs
 generalize a.tmps[d] = c at hs
 have hq : a.tmps[d]? = some a.tmps[d] := by simp [hlt]
 have hs := h.slot d _ hd
 simp [hlt] at hs
 cases hs' : a.tmps[d] with
 | tuple x => simp [hq, hs']
 | _ => rw [hs'] at hs; cases hs

theorem AOps.guarded {ops : Array Oper} {o : Oper} {rest : List Oper} {s' : St} {j d : Nat} {b : Bool} (hg : o.guard = some (j, b)) (hj : gslot ops j = some d) (hd : s.slots[d]? = some (.rv (.v (.bool b))))
    (h : OpStep P G o s s') (k : AOps P G ops Q rest s') : AOps P G ops Q (o :: rest) s :=
  fun E a w hr => wpList_step fun _ hK => by
    have hy := yielded_of hr hj hd
    simp only [Region.wanted, hg, hy, beq_self_eq_true, if_true]
    exact h E a w hr _ _ fun a' w' hr' => hK a' w' (k E a' w' hr')

theorem Rel.putUndef {E : Entry} {a : Act} {w : World} (hr : Rel E G s a w) (dst : Option Nat) : Rel E G (s.put dst (.tuple [])) (a.put dst undef) w := by
 obtain ⟨β, ro, h⟩ := hr
 exact ⟨β, ro, h.put dst _ _ (.tuple _ _ rfl (by simp))⟩

theorem AOps.skipped {ops : Array Oper} {o : Oper} {rest : List Oper} {j d : Nat} {b : Bool} (hg : o.guard = some (j, b)) (hj : gslot ops j = some d) (hd : s.slots[d]? = some (.rv (.v (.bool (!b)))))
    (k : AOps P G ops Q rest (s.put o.dst (.tuple []))) : AOps P G ops Q (o :: rest) s :=
  fun E a w hr => by
    have hy := yielded_of hr hj hd
    refine wpList_skip ?_ (k E _ w (hr.putUndef o.dst))
    simp only [Region.wanted, hg, hy]
    cases b <;> rfl

theorem AOps.skippedN {ops : Array Oper} {o : Oper} {rest : List Oper} {j d : Nat} {b : Bool} (hg : o.guard = some (j, b)) (hj : gslot ops j = some d) {cs : List AV} (hd : s.slots[d]? = some (.tuple cs))
    (k : AOps P G ops Q rest (s.put o.dst (.tuple []))) : AOps P G ops Q (o :: rest) s :=
  fun E a w hr => by
    have hy := yielded_none hr hj hd
    refine wpList_skip ?_ (k E _ w (hr.putUndef o.dst))
    simp only [Region.wanted, hg, hy]
    cases b <;> rfl

def SeqQ (P : Program) (G : Glob) (c : Code) (Q : Exit → St → Prop) : Exit → St → Prop
 | .normal, s => AWp P G c Q s
 | e, s => Q e s

theorem AWp.seq {x y : Code} (h : AWp P G x (SeqQ P G y Q) s) : AWp P G (.seq x y) Q s := fun E a w hr => by
 refine wp_seq (wp_mono (h E a w hr) fun e a' w' hq => ?_)
 obtain ⟨s', h1, h2⟩ := hq
 cases e with
 | normal => exact h1 E a' w' h2
 | _ => exact ⟨s', h1, h2⟩

theorem AWp.cond {x : Operand} {c d : Code} {b : Bool} (hx : aval G s x = .rv (.v (.bool b))) (ht : b = true → AWp P G c Q s) (hf : b = false → AWp P G d Q s) : AWp P G (.cond x c d) Q s := fun E a w hr => by
 obtain ⟨β, ro, h⟩ := hr
 exact wp_cond_split (h.evalV hx) (fun e => ht e E a w ⟨β, ro, h⟩) (fun e => hf e E a w ⟨β, ro, h⟩)
theorem AWp.cond_t {x : Operand} {c d : Code} (hx : aval G s x = .rv (.v (.bool true))) (ht : AWp P G c Q s) : AWp P G (.cond x c d) Q s := AWp.cond hx (fun _ => ht) (fun h => by cases h)
theorem AWp.cond_f {x : Operand} {c d : Code} (hx : aval G s x = .rv (.v (.bool false))) (hf : AWp P G d Q s) : AWp P G (.cond x c d) Q s := AWp.cond hx (fun h => by cases h) (fun _ => hf)

theorem AWp.skip (h : Q .normal s) : AWp P G .skip Q s := fun _ _ _ hr => wp_skip ⟨s, h, hr⟩
theorem AWp.ret (h : Q .ret s) : AWp P G .ret Q s := fun _ _ _ hr => wp_ret ⟨s, h, hr⟩
theorem AWp.exit {id : Nat} (h : Q (.exit id) s) : AWp P G (.exit id) Q s := fun _ _ _ hr => wp_exit ⟨s, h, hr⟩
theorem AWp.mono {c : Code} {Q' : Exit → St → Prop} (h : AWp P G c Q s) (hq : ∀ e s, Q e s → Q' e s) : AWp P G c Q' s := fun E a w hr =>
 wp_mono (h E a w hr) fun e _ _ ⟨s', h1, h2⟩ => ⟨s', hq e s' h1, h2⟩

def BlockQ (id : Nat) (Q : Exit → St → Prop) : Exit → St → Prop
 | .exit id', s => bif Nat.beq id' id then Q .normal s else Q (.exit id') s
 | e, s => Q e s

theorem AWp.block {id : Nat} {c : Code} (h : AWp P G c (BlockQ id Q) s) : AWp P G (.block id c) Q s := fun E a w hr => by
 refine wp_block (wp_mono (h E a w hr) fun e a' w' hq => ?_)
 obtain ⟨s', h1, h2⟩ := hq
 cases e with
 | exit id' =>
  simp only [BlockQ, Exit.inBlock] at *
  split
  ·rename_i he
   have hb : Nat.beq id' id = true := by simpa using he
   rw [hb] at h1
   exact ⟨s', h1, h2⟩
  ·rename_i he
   have hb : Nat.beq id' id = false := by
    cases hq : Nat.beq id' id with
    | false => rfl
    | true => exact absurd (Nat.eq_of_beq_eq_true hq) he
   rw [hb] at h1
   exact ⟨s', h1, h2⟩
 | _ => exact ⟨s', h1, h2⟩

def Le (s s' : St) : Prop := ∀ E (G : Glob) a w, Rel E G s a w → Rel E G s' a w
theorem Le.refl (s : St) : Le s s := fun _ _ _ _ h => h
theorem Le.trans {s s' s'' : St} (h : Le s s') (k : Le s' s'') : Le s s'' := fun E G a w hr => k E G a w (h E G a w hr)
theorem AWp.le {c : Code} {s' : St} (h : Le s s') (k : AWp P G c Q s') : AWp P G c Q s := fun E a w hr => k E a w (h E G a w hr)
theorem AOps.le {ops : Array Oper} {l : List Oper} {s' : St} (h : Le s s') (k : AOps P G ops Q l s') : AOps P G ops Q l s := fun E a w hr => k E a w (h E G a w hr)

theorem AWp.loop {ι : Type} (st : ι → St) (inv : ι → Prop) (mu : ι → Nat) {c : Code} (x : ι) (h0 : Le s (st x)) (hi : inv x)
    (round : ∀ x, inv x → AWp P G c (fun e s' => match e with
      | .normal => ∃ y, inv y ∧ mu y < mu x ∧ Le s' (st y)
      | e => Q e s') (st x)) : AWp P G (.loop c) Q s := fun E a w hr => by
  have key : ∀ n x, mu x = n → inv x → ∀ a w, Rel E G (st x) a w → (Code.loop c).wp P (lift E G Q) a w := by
    intro n x hn hx a w hr
    refine wp_loop (fun a w => ∃ y, inv y ∧ Rel E G (st y) a w) (fun a w => Classical.epsilon fun m => ∃ y, inv y ∧ Rel E G (st y) a w ∧ mu y = m ∧ ∀ z, inv z → Rel E G (st z) a w → m ≤ mu z) ⟨x, hx, hr⟩ ?_
    intro a w ⟨y0, hy0, hr0⟩
    have hex : ∃ m, ∃ y, inv y ∧ Rel E G (st y) a w ∧ mu y = m ∧ ∀ z, inv z → Rel E G (st z) a w → m ≤ mu z := by
      have : ∀ k y, mu y = k → inv y → Rel E G (st y) a w → ∃ m, ∃ y, inv y ∧ Rel E G (st y) a w ∧ mu y = m ∧ ∀ z, inv z → Rel E G (st z) a w → m ≤ mu z := by
        intro k
        induction k using Nat.strongRecOn with
        | _ k ih =>
          intro y hk hy hry
          by_cases hmin : ∀ z, inv z → Rel E G (st z) a w → mu y ≤ mu z
          · exact ⟨mu y, y, hy, hry, rfl, hmin⟩
          · simp only [Classical.not_forall] at hmin
            obtain ⟨z, hz, hrz, hlt⟩ := hmin
            exact ih (mu z) (by omega) z rfl hz hrz
      exact this _ y0 rfl hy0 hr0
    obtain ⟨y, hy, hry, hmy, _⟩ := Classical.epsilon_spec hex
    refine wp_mono (round y hy E a w hry) fun e a' w' hq => ?_
    obtain ⟨s', h1, h2⟩ := hq
    cases e with
    | normal =>
      obtain ⟨z, hz, hlt, hle⟩ := h1
      have hrz := hle E G a' w' h2
      refine ⟨⟨z, hz, hrz⟩, ?_⟩
      have hex' : ∃ m, ∃ y, inv y ∧ Rel E G (st y) a' w' ∧ mu y = m ∧ ∀ z, inv z → Rel E G (st z) a' w' → m ≤ mu z := by
        have : ∀ k y, mu y = k → inv y → Rel E G (st y) a' w' → ∃ m, ∃ y, inv y ∧ Rel E G (st y) a' w' ∧ mu y = m ∧ ∀ z, inv z → Rel E G (st z) a' w' → m ≤ mu z := by
          intro k
          induction k using Nat.strongRecOn with
          | _ k ih =>
            intro y hk hy hry
            by_cases hmin : ∀ z, inv z → Rel E G (st z) a' w' → mu y ≤ mu z
            · exact ⟨mu y, y, hy, hry, rfl, hmin⟩
            · simp only [Classical.not_forall] at hmin
              obtain ⟨z, hz, hrz, hlt⟩ := hmin
              exact ih (mu z) (by omega) z rfl hz hrz
        exact this _ z rfl hz hrz
      obtain ⟨_, _, _, _, hmin⟩ := Classical.epsilon_spec hex'
      have h3 := hmin z hz hrz
      rw [← hmy]
      exact Nat.lt_of_le_of_lt h3 hlt
    | _ => exact ⟨s', h1, h2⟩
  exact key _ x rfl hi a w (h0 E G a w hr)
end

def ACalls (P : Program) (G : Glob) (f : FuncId) (args : List AV) (σ : Heap) (n : Nat) (Q : AV → Heap → Prop) : Prop :=
 ∀ w β ro (cargs : Array Value), cargs.size = args.length → (∀ i x, args[i]? = some x → ARel w ro σ β n x (cargs.getD i undef)) → HRel w ro σ β n → GRel w ro G → (∀ id o, hget σ id = some o → id < n) →
  Calls P f cargs w fun e w' => ∃ v r σ' β' ro' n', e = .returned v ∧ Q r σ' ∧ ARel w' ro' σ' β' n' r v ∧ HRel w' ro' σ' β' n' ∧ Trans ⟨w, ro, σ, β, n⟩ w' ro' σ' β' n'

def ares (P : Program) (s : St) : List ResultVar → Option (List AV)
 | [] => some []
 | .tmp t :: r => match ares P s r with
  | some l => some (s.slots.getD t .top :: l)
  | none => none
 | .cell p t :: r => match ares P s r, acells s.heap (s.slots.getD p .top) with
  | some l, some cs => match aggSize P t with
   | some n => if n ≤ cs.length ∧ 0 < n then some (.agg (cs.take n) :: l) else none
   | none => if scalar P t then match cs with
    | y :: _ => some (y :: l)
    | [] => none
    else none
  | _, _ => none

def aresult (P : Program) (fn : Func) (s : St) : Option AV :=
 match ares P s fn.results.toList with
 | some [x] => some x
 | some l => some (.tuple l)
 | none => none

def RetQ (P : Program) (fn : Func) (Q : AV → Heap → Prop) : Exit → St → Prop := fun e s =>
 (e = .normal ∨ e = .ret) ∧ ∃ r σ', aresult P fn s = some r ∧ (∀ id o, hget σ' id = some o → hget s.heap id = some o) ∧ Q r σ'

theorem HRel.sub {w : World} {ro : Nat → Prop} {σ σ' : Heap} {β : Nat → Value} {N : Nat} (h : HRel w ro σ β N) (hs : ∀ id o, hget σ' id = some o → hget σ id = some o) : HRel w ro σ' β N := by
 refine ⟨fun id o hg => (h.objs id o (hs id o hg)).keep (fun _ _ => rfl) (fun _ h => h) (Nat.le_refl _) (Nat.le_refl _) rfl (fun _ _ _ => rfl) (fun id t cs hg => ⟨rfl, t, cs, hs id _ hg⟩) (fun id z t n es hg => ⟨rfl, z, t, es, hs id _ hg⟩) (fun id Φ hg => ⟨rfl, Φ, hs id _ hg⟩),
  fun id id' o o' b h1 h2 => h.inj id id' o o' b (hs id o h1) (hs id' o' h2), fun b hb ⟨id, o, hg, hl, hbk⟩ => h.disj b hb ⟨id, o, hs id o hg, hl, hbk⟩, h.lt⟩

theorem ARel.sub {w : World} {ro : Nat → Prop} {σ σ' : Heap} {β : Nat → Value} {N : Nat} {x : AV} {c : Value} (h : ARel w ro σ β N x c) (hs : ∀ id o, hget σ' id = some o → hget σ id = some o) : ARel w ro σ' β N x c :=
 h.keep (fun _ _ => rfl) (fun _ h => h) (Nat.le_refl _) (fun id t cs hg => ⟨rfl, t, cs, hs id _ hg⟩) (fun id z t _ es hg => ⟨rfl, z, t, es, hs id _ hg⟩) (fun id Φ hg => ⟨rfl, Φ, hs id _ hg⟩)

theorem Trans.sub {E : Entry} {w : World} {ro : Nat → Prop} {σ σ' : Heap} {β : Nat → Value} {n : Nat} (h : Trans E w ro σ β n) (hs : ∀ id o, hget σ' id = some o → hget σ id = some o) : Trans E w ro σ' β n :=
 ⟨h.os, h.tape, h.output, h.size, h.frame, h.roSub, h.roKeep, fun b ⟨id, o, hg, hl, hbk⟩ => h.ownSub b ⟨id, o, hs id o hg, hl, hbk⟩, fun id hi o hg => h.old id hi o (hs id o hg), fun id o hg => h.new id o (hs id o hg), h.le⟩

section
variable {P : Program} {G : Glob}

def resOne (tmps : Array Value) : ResultVar → Sem Value
 | .tmp t => pure (tmps.getD t undef)
 | .cell p t => do
  let b ← asAddr (tmps.getD p undef)
  loadVar t b

theorem results_eq (fn : Func) (tmps : Array Value) : results fn tmps = (do
    let vs ← fn.results.mapM (resOne tmps)
    pure (if h : vs.size = 1 then vs[0] else .tuple vs)) := by
  unfold results
  have : (fun x => match x with
      | ResultVar.tmp t => (pure (tmps.getD t undef) : Sem Value)
      | ResultVar.cell p t => do
        let b ← asAddr (tmps.getD p undef)
        loadVar t b) = resOne tmps := by
    funext x
    cases x <;> rfl
  rw [← this]
  rfl

theorem ares_run {E : Entry} {s : St} {a : Act} {w : World} {β : Nat → Value} {ro : Nat → Prop} (h : RelAt E G s a w β ro) : ∀ {rs : List ResultVar} {l : List AV}, ares P s rs = some l →
    ∃ vs : List Value, (rs.mapM (resOne a.tmps)).run P w = .ok vs w ∧ vs.length = l.length ∧ ∀ j x, l[j]? = some x → ARel w ro s.heap β s.next x (vs.getD j undef)
  | [], l, hl => by
    simp [ares] at hl
    subst hl
    exact ⟨[], by simp, rfl, by simp⟩
  | .tmp t :: r, l, hl => by
    simp only [ares] at hl
    cases hr : ares P s r with
    | none => simp [hr] at hl
    | some l' =>
      simp only [hr, Option.some.injEq] at hl
      subst hl
      obtain ⟨vs, h1, h2, h3⟩ := ares_run h hr
      refine ⟨a.tmps.getD t undef :: vs, by simp only [List.mapM_cons, Sem.run_bind, resOne, Sem.run_pure, Result.andThen_ok, h1], by simp [h2], fun j x hj => ?_⟩
      cases j with
      | zero =>
        simp at hj
        subst hj
        exact h.eval (.tmp t)
      | succ j => exact h3 j x hj
  | .cell p t :: r, l, hl => by
    simp only [ares] at hl
    cases hr : ares P s r with
    | none => simp [hr] at hl
    | some l' =>
      cases hc : acells s.heap (s.slots.getD p .top) with
      | none => rw [hr, hc] at hl; cases hl
      | some cs =>
        rw [hr, hc] at hl
        simp only at hl
        obtain ⟨vs, h1, h2, h3⟩ := ares_run h hr
        have hev := h.eval (.tmp p)
        simp only [aval, Act.eval] at hev
        cases hag : aggSize P t with
        | some n =>
          simp only [hag] at hl
          split at hl
          · rename_i hn
            simp only [Option.some.injEq] at hl
            subst hl
            obtain ⟨ad, hce, f, hf⟩ := read_cells h.heap hc hev (by intro e; subst e; simp at hn; omega)
            obtain ⟨g1, g2⟩ := run_isAgg_agg hag w
            have hlc := run_loadCells (P := P) w ad n f (fun j hj => (hf j (cs[j]'(by omega)) (by simp)).1)
            refine ⟨.agg ((List.range n).map f).toArray :: vs, ?_, by simp [h2], fun j x hj => ?_⟩
            · simp only [List.mapM_cons, Sem.run_bind, resOne, hce, asAddr, Sem.run_pure, Result.andThen_ok, loadVar, g1, g2, if_true, hlc, h1]
            · cases j with
              | zero =>
                simp at hj
                subst hj
                refine .agg _ _ (by simp; omega) fun j y hj => ?_
                rw [List.getElem?_take] at hj
                split at hj
                · have := (hf j y hj).2
                  rename_i hjn
                  simpa [hjn] using this
                · cases hj
              | succ j => exact h3 j x hj
          · cases hl
        | none =>
          simp only [hag] at hl
          split at hl
          · rename_i hsc
            cases cs with
            | nil => simp at hl
            | cons y cs' =>
              simp only [Option.some.injEq] at hl
              subst hl
              obtain ⟨ad, hce, f, hf⟩ := read_cells h.heap hc hev (by simp)
              have g1 := run_isAgg_scalar hsc w
              obtain ⟨hcell, hrel⟩ := hf 0 y rfl
              rw [show ad.add 0 = ad from by simp [Addr.add]] at hcell
              refine ⟨f 0 :: vs, ?_, by simp [h2], fun j x hj => ?_⟩
              · simp only [List.mapM_cons, Sem.run_bind, resOne, hce, asAddr, Sem.run_pure, Result.andThen_ok, loadVar, g1]
                simp [run_load, hcell, h1]
              · cases j with
                | zero => simp at hj; subst hj; exact hrel
                | succ j => exact h3 j x hj
          · cases hl

theorem aresult_run {E : Entry} {s : St} {a : Act} {w : World} {β : Nat → Value} {ro : Nat → Prop} (h : RelAt E G s a w β ro) {fn : Func} {r : AV} (hr : aresult P fn s = some r) :
    ∃ v, (results fn a.tmps).run P w = .ok v w ∧ ARel w ro s.heap β s.next r v := by
  unfold aresult at hr
  cases ha : ares P s fn.results.toList with
  | none => simp [ha] at hr
  | some l =>
    rw [ha] at hr
    obtain ⟨vs, h1, h2, h3⟩ := ares_run h ha
    have hm : (fn.results.mapM (resOne a.tmps)).run P w = .ok vs.toArray w := by
      rw [Array.mapM_eq_mapM_toList]
      simp only [Sem.run_map, h1]
      first | rfl | simp
    have hres : (results fn a.tmps).run P w = .ok (if h : vs.toArray.size = 1 then vs.toArray[0] else .tuple vs.toArray) w := by
      rw [results_eq, Sem.run_bind, hm]
      rfl
    refine ⟨_, hres, ?_⟩
    match l, ha, hr, h2, h3 with
    | [x], _, hr, h2, h3 =>
      injection hr with hr
      subst hr
      have h2' : vs.toArray.size = 1 := by simpa using h2
      rw [dif_pos h2']
      have := h3 0 x rfl
      have hl0 : 0 < vs.length := by simp at h2'; omega
      simpa [List.getD, hl0] using this
    | [], _, hr, h2, h3 =>
      injection hr with hr
      subst hr
      have : vs = [] := List.eq_nil_of_length_eq_zero (by simpa using h2)
      subst this
      exact .tuple _ _ rfl (by simp)
    | x :: y :: l', _, hr, h2, h3 =>
      injection hr with hr
      subst hr
      rw [dif_neg (by simp at h2 ⊢; omega)]
      refine .tuple _ _ (by simpa using h2) fun j z hj => ?_
      have := h3 j z hj
      simpa [List.getD, Array.getD_eq_getD_getElem?] using this

theorem ACalls.of_body {f : FuncId} {fn : Func} {c : Code} {args : List AV} {σ : Heap} {n k : Nat} {Q : AV → Heap → Prop} (hf : P.funcs[f]? = some fn) (hb : fn.body = some c) (hk : fn.ntmps - args.length = k)
    (h : AWp P G c (RetQ P fn Q) ⟨args ++ List.replicate k .top, σ, n, n⟩) : ACalls P G f args σ n Q := by
  intro w β ro cargs hsz hargs hh hg hlt
  refine calls_of_wp hf hb (wp_mono (h ⟨w, ro, σ, β, n⟩ _ w ⟨β, ro, rfl, ?_, ?_, hh, hg, ?_, Nat.le_refl _⟩) ?_)
  · simp [hsz, hk]
  · intro i x hi
    simp only at hi
    by_cases hlt' : i < args.length
    · rw [List.getElem?_append_left hlt'] at hi
      have := hargs i x hi
      have h1 : i < cargs.size := by omega
      simpa [Array.getElem?_append_left h1, h1, Array.getElem_append_left h1] using this
    · rw [List.getElem?_append_right (by omega)] at hi
      rw [List.getElem?_replicate] at hi
      split at hi
      · simp only [Option.some.injEq] at hi; subst hi; exact .top _
      · cases hi
  · exact ⟨rfl, rfl, rfl, Nat.le_refl _, fun _ _ _ => rfl, fun _ h => .inl h, fun _ h => h, fun _ h => .inl h, fun id _ o ho => ⟨by rw [ho]; simp, rfl⟩, hlt, Nat.le_refl _⟩
  · intro e a' w' ⟨s', hq, β', ro', hr⟩
    obtain ⟨he, r, σ', hres, hsub, hQ⟩ := hq
    obtain ⟨v, hv, hrel⟩ := aresult_run hr hres
    rcases he with rfl | rfl
    · exact ⟨hr.defers, v, hv, v, r, σ', β', ro', s'.next, rfl, hQ, hrel.sub hsub, hr.heap.sub hsub, hr.trans.sub hsub⟩
    · exact ⟨hr.defers, v, hv, v, r, σ', β', ro', s'.next, rfl, hQ, hrel.sub hsub, hr.heap.sub hsub, hr.trans.sub hsub⟩
end
end Go.Av
namespace Go.Av
open Go

mutual
def belowA (n : Nat) : AV → Bool
 | .rv _ => true
 | .agg cs => belowL n cs
 | .tuple cs => belowL n cs
 | .ptr id _ => decide (id < n)
 | .bsl id _ => decide (id < n)
 | .eptr id _ _ => decide (id < n)
 | .sl id => decide (id < n)
 | .fn _ p q => belowL n p && belowL n q
 | .ref id => decide (id < n)
 | .top => true
def belowL (n : Nat) : List AV → Bool
 | [] => true
 | x :: r => belowA n x && belowL n r
end

theorem belowL_at {n : Nat} : ∀ {cs : List AV}, belowL n cs = true → ∀ {j : Nat} {x : AV}, cs[j]? = some x → belowA n x = true
 | [], _, j, x, h => by simp at h
 | y :: r, hb, j, x, h => by
  simp only [belowL, Bool.and_eq_true] at hb
  cases j with
  | zero => simp at h; subst h; exact hb.1
  | succ j => simp at h; exact belowL_at hb.2 h

theorem ARel.lower {w : World} {ro : Nat → Prop} {σ : Heap} {β : Nat → Value} {N N' : Nat} {x : AV} {c : Value} (h : ARel w ro σ β N x c) (hb : belowA N' x = true) : ARel w ro σ β N' x c := by
 induction h with
 | rv x c hx => exact .rv x c hx
 | agg cs c hs _ ih =>
  simp only [belowA] at hb
  exact .agg cs c hs fun j x hj => ih j x hj (belowL_at hb hj)
 | tuple cs c hs _ ih =>
  simp only [belowA] at hb
  exact .tuple cs c hs fun j x hj => ih j x hj (belowL_at hb hj)
 | ptr id off c hl hp => exact .ptr id off c (by simpa [belowA] using hb) hp
 | bsl id off c hl hp => exact .bsl id off c (by simpa [belowA] using hb) hp
 | eptr id i off c hl hp => exact .eptr id i off c (by simpa [belowA] using hb) hp
 | sl id c hl hp => exact .sl id c (by simpa [belowA] using hb) hp
 | fn f p q c d h1 h2 _ _ ih1 ih2 =>
  simp only [belowA, Bool.and_eq_true] at hb
  exact .fn f p q c d h1 h2 (fun j x hj => ih1 j x hj (belowL_at hb.1 hj)) (fun j x hj => ih2 j x hj (belowL_at hb.2 hj))
 | ref id c hl hp => exact .ref id c (by simpa [belowA] using hb) hp
 | top c => exact .top c

def pickH (σ : Heap) : List Nat → Heap
 | [] => []
 | id :: r => match hget σ id with
  | some o => (id, o) :: pickH σ r
  | none => pickH σ r

theorem pickH_sub (σ : Heap) : ∀ (ids : List Nat) (id : Nat) (o : AObj), hget (pickH σ ids) id = some o → hget σ id = some o
 | [], id, o, h => by simp [pickH, hget] at h
 | k :: r, id, o, h => by
  simp only [pickH] at h
  cases hk : hget σ k with
  | none => rw [hk] at h; exact pickH_sub σ r id o h
  | some p =>
   rw [hk] at h
   simp only [hget] at h
   split at h
   ·rename_i he
    subst he
    rw [hk]
    exact h
   ·exact pickH_sub σ r id o h

def belowH (n : Nat) : Heap → Bool
 | [] => true
 | (id, .box _ cs) :: r => decide (id < n) && belowL n cs && belowH n r
 | (id, .row _ _ _ _) :: r => decide (id < n) && belowH n r
 | (id, .oth _) :: r => decide (id < n) && belowH n r

theorem belowH_at {n : Nat} : ∀ {σ : Heap}, belowH n σ = true → ∀ {id : Nat} {o : AObj}, hget σ id = some o → id < n ∧ ∀ t cs, o = .box t cs → belowL n cs = true
 | [], _, id, o, h => by simp [hget] at h
 | (k, .box t cs) :: r, hb, id, o, h => by
  simp only [belowH, Bool.and_eq_true, decide_eq_true_eq] at hb
  simp only [hget] at h
  split at h
  ·rename_i he
   subst he
   simp only [Option.some.injEq] at h
   subst h
   exact ⟨hb.1.1, fun t' cs' he => by cases he; exact hb.1.2⟩
  ·exact belowH_at hb.2 h
 | (k, .row z t m es) :: r, hb, id, o, h => by
  simp only [belowH, Bool.and_eq_true, decide_eq_true_eq] at hb
  simp only [hget] at h
  split at h
  ·rename_i he
   subst he
   simp only [Option.some.injEq] at h
   subst h
   exact ⟨hb.1, fun t' cs' he => by cases he⟩
  ·exact belowH_at hb.2 h
 | (k, .oth Φ) :: r, hb, id, o, h => by
  simp only [belowH, Bool.and_eq_true, decide_eq_true_eq] at hb
  simp only [hget] at h
  split at h
  ·rename_i he
   subst he
   simp only [Option.some.injEq] at h
   subst h
   exact ⟨hb.1, fun t' cs' he => by cases he⟩
  ·exact belowH_at hb.2 h

mutual
def viewA (σ : Heap) : AV → AV
 | .sl id => match hget σ id with
  | some (.row true _ n es) => .rv (.sl n es)
  | _ => .sl id
 | .agg cs => .agg (viewL σ cs)
 | .tuple cs => .tuple (viewL σ cs)
 | .fn f p q => .fn f (viewL σ p) (viewL σ q)
 | .rv x => .rv x
 | .ptr id off => .ptr id off
 | .bsl id off => .bsl id off
 | .eptr id i off => .eptr id i off
 | .ref id => .ref id
 | .top => .top
def viewL (σ : Heap) : List AV → List AV
 | [] => []
 | x :: r => viewA σ x :: viewL σ r
end
theorem viewL_length (σ : Heap) : ∀ (l : List AV), (viewL σ l).length = l.length
 | [] => rfl
 | x :: r => by simp [viewL, viewL_length σ r]
theorem viewL_at (σ : Heap) : ∀ {l : List AV} {j : Nat} {x : AV}, (viewL σ l)[j]? = some x → ∃ y, l[j]? = some y ∧ x = viewA σ y
 | [], j, x, h => by simp [viewL] at h
 | y :: r, j, x, h => by
  cases j with
  | zero => simp [viewL] at h; exact ⟨y, by simp, h.symm⟩
  | succ j => simp [viewL] at h; simpa using viewL_at σ h

theorem viewA_rel {w : World} {ro : Nat → Prop} {σ : Heap} {β : Nat → Value} {N : Nat} (hh : HRel w ro σ β N) {x : AV} {c : Value} (h : ARel w ro σ β N x c) : ARel w ro σ β N (viewA σ x) c := by
 induction h with
 | sl id c hl hp =>
  simp only [viewA]
  split
  ·rename_i t n es hg
   rw [hp true t n es hg]
   have := hh.objs id _ hg
   cases this with
   | fro _ _ _ h1 => exact .rv _ _ h1
  ·exact .sl id c hl hp
 | rv x c h => exact .rv x c h
 | agg cs c h1 _ ih =>
  refine .agg _ c (by rw [viewL_length]; exact h1) fun j x hj => ?_
  obtain ⟨y, hy, rfl⟩ := viewL_at σ hj
  exact ih j y hy
 | tuple cs c h1 _ ih =>
  refine .tuple _ c (by rw [viewL_length]; exact h1) fun j x hj => ?_
  obtain ⟨y, hy, rfl⟩ := viewL_at σ hj
  exact ih j y hy
 | ptr id off c h1 h2 => exact .ptr id off c h1 h2
 | bsl id off c h1 h2 => exact .bsl id off c h1 h2
 | eptr id i off c h1 h2 => exact .eptr id i off c h1 h2
 | fn f p q c d h1 h2 _ _ ih1 ih2 =>
  refine .fn f _ _ c d (by rw [viewL_length]; exact h1) (by rw [viewL_length]; exact h2) (fun j x hj => ?_) (fun j x hj => ?_)
  ·obtain ⟨y, hy, rfl⟩ := viewL_at σ hj
   exact ih1 j y hy
  ·obtain ⟨y, hy, rfl⟩ := viewL_at σ hj
   exact ih2 j y hy
 | ref id c h1 h2 => exact .ref id c h1 h2
 | top c => exact .top c

mutual
def pureA : AV → Bool
 | .rv _ => true
 | .agg cs => pureL cs
 | .tuple cs => pureL cs
 | .fn _ p q => pureL p && pureL q
 | .top => true
 | .ptr _ _ => false
 | .bsl _ _ => false
 | .eptr _ _ _ => false
 | .sl _ => false
 | .ref _ => false
def pureL : List AV → Bool
 | [] => true
 | x :: r => pureA x && pureL r
end
theorem pureL_at : ∀ {cs : List AV}, pureL cs = true → ∀ {j : Nat} {x : AV}, cs[j]? = some x → pureA x = true
 | [], _, j, x, h => by simp at h
 | y :: r, hb, j, x, h => by
  simp only [pureL, Bool.and_eq_true] at hb
  cases j with
  | zero => simp at h; subst h; exact hb.1
  | succ j => simp at h; exact pureL_at hb.2 h
theorem pureL_map (l : List RV) : pureL (l.map .rv) = true := by
 induction l with
 | nil => rfl
 | cons x r ih => simp [pureL, pureA, ih]
theorem pure_rel {w : World} {ro : Nat → Prop} {σ τ : Heap} {β γ : Nat → Value} {N M : Nat} {x : AV} {c : Value} (h : ARel w ro σ β N x c) (hp : pureA x = true) : ARel w ro τ γ M x c := by
 induction h with
 | rv x c h => exact .rv x c h
 | agg cs c h1 _ ih =>
  simp only [pureA] at hp
  exact .agg cs c h1 fun j x hj => ih j x hj (pureL_at hp hj)
 | tuple cs c h1 _ ih =>
  simp only [pureA] at hp
  exact .tuple cs c h1 fun j x hj => ih j x hj (pureL_at hp hj)
 | fn f p q c d h1 h2 _ _ ih1 ih2 =>
  simp only [pureA, Bool.and_eq_true] at hp
  exact .fn f p q c d h1 h2 (fun j x hj => ih1 j x hj (pureL_at hp.1 hj)) (fun j x hj => ih2 j x hj (pureL_at hp.2 hj))
 | top c => exact .top c
 | ptr => simp [pureA] at hp
 | bsl => simp [pureA] at hp
 | eptr => simp [pureA] at hp
 | sl => simp [pureA] at hp
 | ref => simp [pureA] at hp

mutual
def shiftA (d : Nat) : AV → AV
 | .rv x => .rv x
 | .agg cs => .agg (shiftL d cs)
 | .tuple cs => .tuple (shiftL d cs)
 | .ptr id off => .ptr (d + id) off
 | .bsl id off => .bsl (d + id) off
 | .eptr id i off => .eptr (d + id) i off
 | .sl id => .sl (d + id)
 | .fn f p q => .fn f (shiftL d p) (shiftL d q)
 | .ref id => .ref (d + id)
 | .top => .top
def shiftL (d : Nat) : List AV → List AV
 | [] => []
 | x :: r => shiftA d x :: shiftL d r
end
def shiftH (d : Nat) : Heap → Heap
 | [] => []
 | (id, .box t cs) :: r => (d + id, .box t (shiftL d cs)) :: shiftH d r
 | (id, .row z t n es) :: r => (d + id, .row z t n es) :: shiftH d r
 | (id, .oth Φ) :: r => (d + id, .oth Φ) :: shiftH d r

def shiftO (d : Nat) : AObj → AObj
 | .box t cs => .box t (shiftL d cs)
 | .row z t n es => .row z t n es
 | .oth Φ => .oth Φ

theorem shiftL_length (d : Nat) : ∀ (l : List AV), (shiftL d l).length = l.length
 | [] => rfl
 | x :: r => by simp [shiftL, shiftL_length d r]
theorem shiftL_at (d : Nat) : ∀ {l : List AV} {j : Nat} {x : AV}, (shiftL d l)[j]? = some x → ∃ y, l[j]? = some y ∧ x = shiftA d y
 | [], j, x, h => by simp [shiftL] at h
 | y :: r, j, x, h => by
  cases j with
  | zero => simp [shiftL] at h; exact ⟨y, by simp, h.symm⟩
  | succ j => simp [shiftL] at h; simpa using shiftL_at d h

theorem hget_append (σ τ : Heap) (id : Nat) : hget (σ ++ τ) id = (hget σ id).or (hget τ id) := by
 induction σ with
 | nil => simp [hget]
 | cons p r ih =>
  obtain ⟨k, o⟩ := p
  simp only [List.cons_append, hget]
  split
  ·simp
  ·exact ih

theorem hget_shiftH (d : Nat) : ∀ (σ : Heap) (id : Nat), hget (shiftH d σ) id = if d ≤ id then (hget σ (id - d)).map (shiftO d) else none
 | [], id => by simp [shiftH, hget]
 | (k, .box t cs) :: r, id => by
  simp only [shiftH, hget, hget_shiftH d r]
  by_cases h1 : d + k = id
  ·have h2 : d ≤ id := by omega
   have h3 : k = id - d := by omega
   simp [h2, h3, shiftO]
  ·by_cases h2 : d ≤ id
   ·have h3 : ¬ k = id - d := by omega
    simp [h1, h2, h3]
   ·simp [h1, h2]
 | (k, .row z t n es) :: r, id => by
  simp only [shiftH, hget, hget_shiftH d r]
  by_cases h1 : d + k = id
  ·have h2 : d ≤ id := by omega
   have h3 : k = id - d := by omega
   simp [h2, h3, shiftO]
  ·by_cases h2 : d ≤ id
   ·have h3 : ¬ k = id - d := by omega
    simp [h1, h2, h3]
   ·simp [h1, h2]
 | (k, .oth Φ) :: r, id => by
  simp only [shiftH, hget, hget_shiftH d r]
  by_cases h1 : d + k = id
  ·have h2 : d ≤ id := by omega
   have h3 : k = id - d := by omega
   simp [h2, h3, shiftO]
  ·by_cases h2 : d ≤ id
   ·have h3 : ¬ k = id - d := by omega
    simp [h1, h2, h3]
   ·simp [h1, h2]

theorem ARel.shift {w : World} {ro ro' : Nat → Prop} {σ τ : Heap} {β γ : Nat → Value} {N M : Nat} {x : AV} {c : Value} (h : ARel w ro σ β N x c) (hro : ∀ b, ro b → ro' b)
    (hτ : ∀ id o, hget τ id = some o → id < M) :
    ARel w ro' (shiftH M σ ++ τ) (fun k => if M ≤ k then β (k - M) else γ k) (M + N) (shiftA M x) c := by
  have key : ∀ id, hget (shiftH M σ ++ τ) (M + id) = (hget σ id).map (shiftO M) := by
    intro id
    rw [hget_append, hget_shiftH]
    have h1 : M ≤ M + id := by omega
    simp only [h1, if_true, Nat.add_sub_cancel_left]
    cases hs : hget σ id with
    | some o => simp
    | none =>
      simp
      cases ht : hget τ (M + id) with
      | none => rfl
      | some o => have := hτ _ _ ht; omega
  induction h with
  | rv x c hx => exact .rv x c (hx.keep (fun _ _ => rfl) hro)
  | agg cs c hs _ ih =>
    refine .agg _ c (by rw [shiftL_length]; exact hs) fun j x hj => ?_
    obtain ⟨y, hy, rfl⟩ := shiftL_at M hj
    exact ih j y hy
  | tuple cs c hs _ ih =>
    refine .tuple _ c (by rw [shiftL_length]; exact hs) fun j x hj => ?_
    obtain ⟨y, hy, rfl⟩ := shiftL_at M hj
    exact ih j y hy
  | ptr id off c hl hp =>
    refine .ptr _ off c (by omega) fun t cs hg => ?_
    rw [key] at hg
    simp only [Nat.le_add_right, if_true, Nat.add_sub_cancel_left]
    cases hs : hget σ id with
    | none => simp [hs] at hg
    | some o =>
      cases o with
      | box t' cs' => exact hp t' cs' hs
      | row => simp [hs, shiftO] at hg
      | oth => simp [hs, shiftO] at hg
  | bsl id off c hl hp =>
    refine .bsl _ off c (by omega) fun t cs hg => ?_
    rw [key] at hg
    simp only [Nat.le_add_right, if_true, Nat.add_sub_cancel_left]
    cases hs : hget σ id with
    | none => simp [hs] at hg
    | some o =>
      cases o with
      | box t' cs' => exact hp t' cs' hs
      | row => simp [hs, shiftO] at hg
      | oth => simp [hs, shiftO] at hg
  | eptr id i off c hl hp =>
    refine .eptr _ i off c (by omega) fun z t n es hg => ?_
    rw [key] at hg
    simp only [Nat.le_add_right, if_true, Nat.add_sub_cancel_left]
    cases hs : hget σ id with
    | none => simp [hs] at hg
    | some o =>
      cases o with
      | box t' cs' => simp [hs, shiftO] at hg
      | oth => simp [hs, shiftO] at hg
      | row z' t' n' es' =>
        simp only [hs, Option.map_some, shiftO, Option.some.injEq, AObj.row.injEq] at hg
        obtain ⟨rfl, rfl, rfl, rfl⟩ := hg
        exact hp _ _ _ _ hs
  | sl id c hl hp =>
    refine .sl _ c (by omega) fun z t n es hg => ?_
    rw [key] at hg
    simp only [Nat.le_add_right, if_true, Nat.add_sub_cancel_left]
    cases hs : hget σ id with
    | none => simp [hs] at hg
    | some o =>
      cases o with
      | box t' cs' => simp [hs, shiftO] at hg
      | oth => simp [hs, shiftO] at hg
      | row z' t' n' es' => exact hp _ _ _ _ hs
  | fn f p q c d h1 h2 _ _ ih1 ih2 =>
    refine .fn f _ _ c d (by rw [shiftL_length]; exact h1) (by rw [shiftL_length]; exact h2) (fun j x hj => ?_) (fun j x hj => ?_)
    · obtain ⟨y, hy, rfl⟩ := shiftL_at M hj
      exact ih1 j y hy
    · obtain ⟨y, hy, rfl⟩ := shiftL_at M hj
      exact ih2 j y hy
  | ref id c hl hp =>
    refine .ref _ c (by omega) fun Φ hg => ?_
    rw [key] at hg
    simp only [Nat.le_add_right, if_true, Nat.add_sub_cancel_left]
    cases hs : hget σ id with
    | none => simp [hs] at hg
    | some o =>
      cases o with
      | box => simp [hs, shiftO] at hg
      | row => simp [hs, shiftO] at hg
      | oth Φ' => exact hp Φ' hs
  | top c => exact .top c

def callable (P : Program) (f : FuncId) : Bool :=
 match P.funcs[f]? with
 | some fn => !(fn.name == "runtime.NumGoroutine") && fn.body.isSome
 | none => false

theorem callable_run {P : Program} {f : FuncId} (h : callable P f = true) (args : Array Value) (w : World) : (callFunc f args).run P w = .ok (.enter f args) w := by
 unfold callable at h
 split at h
 ·rename_i fn hf
  simp only [Bool.and_eq_true, Bool.not_eq_true'] at h
  have h2 : fn.body ≠ none := by intro e; simp [e] at h
  have h3 : fn.name ≠ "runtime.NumGoroutine" := by simpa using h.1
  simp [callFunc, hf, h2, h3]
 ·cases h

section
variable {P : Program} {G : Glob} {s : St} {Q : Exit → St → Prop}

theorem KStep.call {o : Oper} {x : Operand} {xs : Array Operand} {ts : Array TypeId} (ho : o.op = .call { callee := .value x, args := xs, argTypes := ts }) {f : FuncId} (hx : aval G s x = .fn (.func f) [] [])
    (hcb : callable P f = true) {args : List AV} (hargs : xs.toList.map (fun y => viewA s.heap (aval G s y)) = args) (hpure : pureL args = true) {R : AV → Heap → Prop} (hc : ACalls P G f args [] 0 R) {K : Nat} {r : AV} {τ : Heap}
    (hR : ∀ r' τ', R r' τ' → r' = r ∧ τ' = τ) (hK1 : belowA K r = true) (hK2 : belowH K τ = true) (hb : s.base ≤ s.next) :
    KStep P G o s ({ s with heap := shiftH s.next τ ++ s.heap, next := s.next + K }.put o.dst (shiftA s.next r)) := by
  intro E a w ⟨β, ro, h⟩ KK QQ hKK
  have hfx := h.eval x
  rw [hx] at hfx
  generalize he : a.eval x = fv at hfx
  cases hfx with
  | fn _ _ _ c d h1 h2 _ _ =>
    have hc0 : c = #[] := by simpa using h1
    have hd0 : d = #[] := by simpa using h2
    subst hc0 hd0
    unfold Oper.wp
    simp only [execOp, ho, resolve, he, Deferred.ofValue, Sem.run_bind, Sem.run_pure, Result.andThen_ok, invoke, Array.empty_append, Array.append_empty]
    rw [callable_run hcb]
    have hlen : xs.toList.length = args.length := by have := congrArg List.length hargs; simpa using this
    have hcall := hc w β ro (xs.map a.eval) (by simpa using hlen) (fun i y hy => by
        have hi : (xs.toList.map (fun y => viewA s.heap (aval G s y)))[i]? = some y := by rw [hargs]; exact hy
        rw [List.getElem?_map] at hi
        cases hxi : xs.toList[i]? with
        | none => simp [hxi] at hi
        | some z =>
          simp [hxi] at hi
          have hv := viewA_rel h.heap (h.eval z)
          rw [hi] at hv
          have hxi' : xs[i]? = some z := by simpa using hxi
          have hev : (xs.map a.eval).getD i undef = a.eval z := by simp [hxi']
          rw [hev]
          exact pure_rel hv (pureL_at hpure hy)) ⟨by simp [hget], by simp [hget], fun b _ ⟨_, _, hg, _⟩ => by simp [hget] at hg, h.heap.lt⟩ h.glob (by simp [hget])
    refine Calls.mono hcall fun e w' hq => ?_
    obtain ⟨v, r', τ', β', ro', n', rfl, hRr, hrel, hh', ht'⟩ := hq
    obtain ⟨rfl, rfl⟩ := hR r' τ' hRr
    have noOwn : ∀ b, ¬ Own ([] : Heap) β b := fun b ⟨_, _, hg, _⟩ => by simp [hget] at hg
    have hframe : ∀ b, b < w.heap.size → w'.heap[b]? = w.heap[b]? := fun b hb => ht'.frame b hb (noOwn b)
    have hrel' := hrel.lower hK1
    have hnew := h.heap
    have hτlt := fun id o hg => h.trans.new id o hg
    have hro : ∀ b, ro b → w'.heap[b]? = w.heap[b]? := fun b hb => hframe b (h.heap.lt b hb)
    have ownLt : ∀ k p b, hget s.heap k = some p → p.live = true → blk (β k) = some b → b < w.heap.size := fun k p b hk hp hbk => (h.heap.objs k p hk).blkLt hp hbk
    have newGe : ∀ k p b, hget τ' k = some p → p.live = true → blk (β' k) = some b → w.heap.size ≤ b := by
      intro k p b hk hp hbk
      rcases ht'.ownSub b ⟨k, p, hk, hp, hbk⟩ with hc | hc
      · exact absurd hc (noOwn b)
      · exact hc
    -- the names: from s.next on the callee's
    have look : ∀ id, hget (shiftH s.next τ' ++ s.heap) id = if s.next ≤ id then (hget τ' (id - s.next)).map (shiftO s.next) else hget s.heap id := by
      intro id
      rw [hget_append, hget_shiftH]
      by_cases hi : s.next ≤ id
      · simp only [hi, if_true]
        cases hs : hget τ' (id - s.next) with
        | some p => simp
        | none =>
          simp
          cases ht : hget s.heap id with
          | none => rfl
          | some p => have := hτlt _ _ ht; omega
      · simp [hi]
    have up : ∀ x c, ARel w ro s.heap β s.next x c → ARel w' (fun b => ro b ∨ ro' b) (shiftH s.next τ' ++ s.heap) (fun k => if s.next ≤ k then β' (k - s.next) else β k) (s.next + K) x c := by
      intro x c hx
      induction hx with
      | rv x c hx => exact .rv x c (hx.keep hro fun _ h => .inl h)
      | agg cs c hs _ ih => exact .agg cs c hs ih
      | tuple cs c hs _ ih => exact .tuple cs c hs ih
      | ptr k off c hl hp =>
        have hk : ¬ s.next ≤ k := by omega
        exact .ptr k off c (by omega) fun t cs hgk => by rw [look, if_neg hk] at hgk; simp only [hk, if_false]; exact hp t cs hgk
      | bsl k off c hl hp =>
        have hk : ¬ s.next ≤ k := by omega
        exact .bsl k off c (by omega) fun t cs hgk => by rw [look, if_neg hk] at hgk; simp only [hk, if_false]; exact hp t cs hgk
      | eptr k i off c hl hp =>
        have hk : ¬ s.next ≤ k := by omega
        exact .eptr k i off c (by omega) fun z t n es hgk => by rw [look, if_neg hk] at hgk; simp only [hk, if_false]; exact hp z t n es hgk
      | sl k c hl hp =>
        have hk : ¬ s.next ≤ k := by omega
        exact .sl k c (by omega) fun z t n es hgk => by rw [look, if_neg hk] at hgk; simp only [hk, if_false]; exact hp z t n es hgk
      | fn f p q c d h1 h2 _ _ ih1 ih2 => exact .fn f p q c d h1 h2 ih1 ih2
      | ref k c hl hp =>
        have hk : ¬ s.next ≤ k := by omega
        exact .ref k c (by omega) fun Φ hgk => by rw [look, if_neg hk] at hgk; simp only [hk, if_false]; exact hp Φ hgk
      | top c => exact .top c
    have hroS : ∀ b, ro' b → ro b ∨ w.heap.size ≤ b := fun b hb => by
      rcases ht'.roSub b hb with h | h | h
      · exact .inl h
      · exact absurd h (noOwn b)
      · exact .inr h
    refine hKK _ _ ⟨fun k => if s.next ≤ k then β' (k - s.next) else β k, fun b => ro b ∨ ro' b, RelAt.put (s := { s with heap := shiftH s.next τ' ++ s.heap, next := s.next + K }) ⟨h.defers, h.size, fun i x hx => up _ _ (h.slot i x hx), ⟨fun id p hg => ?_, ?_, ?_, ?_⟩, ?_, ?_, h.base⟩ o.dst _ _ ?_⟩ hframe
    · simp only [look] at hg
      by_cases hi : s.next ≤ id
      · simp only [hi, if_true] at hg
        cases hs : hget τ' (id - s.next) with
        | none => simp [hs] at hg
        | some q =>
          simp [hs] at hg
          subst hg
          obtain ⟨_, hbx⟩ := belowH_at hK2 hs
          have hoo := hh'.objs _ q hs
          cases hoo with
          | box t cs b arr e1 e2 e3 e4 =>
            refine .box t _ b arr (by simp [hi, e1]) e2 (by rw [shiftL_length]; exact e3) fun j x hj => ?_
            obtain ⟨y, hy, rfl⟩ := shiftL_at s.next hj
            exact ARel.shift ((e4 j y hy).lower (belowL_at (hbx t cs rfl) hy)) (fun _ h => .inr h) hτlt
          | row t n es xs e1 e2 e3 => exact .row t n es xs (by simp only [hi, if_true]; exact e1) e2 fun j x hj => (e3 j x hj).keep (fun _ _ => rfl) fun _ h => .inr h
          | fro t n es e1 => exact .fro t n es (by simp only [hi, if_true]; exact e1.keep (fun _ _ => rfl) fun _ h => .inr h)
          | oth Φ b o e1 e2 e3 => exact .oth Φ b o (by simp only [hi, if_true]; exact e1) e2 (by simp only [hi, if_true]; exact Φ.mono _ _ _ _ (fun x c h => h.keep (fun _ _ => rfl) fun _ h => .inr h) e3)
      · simp only [hi, if_false] at hg
        have hoo := h.heap.objs id p hg
        cases hoo with
        | box t cs b arr e1 e2 e3 e4 =>
          have hbl := ownLt id _ b hg rfl (by rw [e1]; rfl)
          exact .box t cs b arr (by simp only [hi, if_false]; exact e1) ((hframe b hbl).trans e2) e3 fun j x hj => up _ _ (e4 j x hj)
        | row t n es xs e1 e2 e3 =>
          exact .row t n es xs (by simp only [hi, if_false]; exact e1.keep (fun b hb => hframe b (e1.blkLt hb).1) ht'.size) e2 fun j x hj => (e3 j x hj).keep hro fun _ h => .inl h
        | fro t n es e1 => exact .fro t n es (by simp only [hi, if_false]; exact e1.keep hro fun _ h => .inl h)
        | oth Φ b o e1 e2 e3 => exact .oth Φ b o (by simp only [hi, if_false]; exact e1) ((hframe b (Array.getElem?_eq_some_iff.1 e2).1).trans e2) (by simp only [hi, if_false]; exact Φ.mono _ _ _ _ (fun x c h => h.keep hro fun _ h => .inl h) e3)
    · intro id id' p p' b hg hg' hp hp' hbk hbk'
      rw [look] at hg hg'
      by_cases hi : s.next ≤ id
      · simp only [hi, if_true] at hg hbk
        cases hs : hget τ' (id - s.next) with
        | none => simp [hs] at hg
        | some q =>
          have hql : q.live = true := by simp [hs] at hg; subst hg; cases q <;> first | rfl | exact hp
          have hge := newGe _ q b hs hql hbk
          by_cases hi' : s.next ≤ id'
          · simp only [hi', if_true] at hg' hbk'
            cases hs' : hget τ' (id' - s.next) with
            | none => simp [hs'] at hg'
            | some q' =>
              have hql' : q'.live = true := by simp [hs'] at hg'; subst hg'; cases q' <;> first | rfl | exact hp'
              have := hh'.inj _ _ q q' b hs hs' hql hql' hbk hbk'
              omega
          · simp only [hi', if_false] at hg' hbk'
            have := ownLt id' p' b hg' hp' hbk'
            omega
      · simp only [hi, if_false] at hg hbk
        have hlt1 := ownLt id p b hg hp hbk
        by_cases hi' : s.next ≤ id'
        · simp only [hi', if_true] at hg' hbk'
          cases hs' : hget τ' (id' - s.next) with
          | none => simp [hs'] at hg'
          | some q' =>
            have hql' : q'.live = true := by simp [hs'] at hg'; subst hg'; cases q' <;> first | rfl | exact hp'
            have hge := newGe _ q' b hs' hql' hbk'
            omega
        · simp only [hi', if_false] at hg' hbk'
          exact h.heap.inj id id' p p' b hg hg' hp hp' hbk hbk'
    · rintro b hb ⟨id, p, hg, hp, hbk⟩
      rw [look] at hg
      by_cases hi : s.next ≤ id
      · simp only [hi, if_true] at hg hbk
        cases hs : hget τ' (id - s.next) with
        | none => simp [hs] at hg
        | some q =>
          have hql : q.live = true := by simp [hs] at hg; subst hg; cases q <;> first | rfl | exact hp
          have hge := newGe _ q b hs hql hbk
          rcases hb with hb | hb
          · have := h.heap.lt b hb; omega
          · exact hh'.disj b hb ⟨_, q, hs, hql, hbk⟩
      · simp only [hi, if_false] at hg hbk
        have hlt1 := ownLt id p b hg hp hbk
        rcases hb with hb | hb
        · exact h.heap.disj b hb ⟨id, p, hg, hp, hbk⟩
        · rcases hroS b hb with hc | hc
          · exact h.heap.disj b hc ⟨id, p, hg, hp, hbk⟩
          · omega
    · intro b hb
      rcases hb with hb | hb
      · exact Nat.lt_of_lt_of_le (h.heap.lt b hb) ht'.size
      · exact hh'.lt b hb
    · exact h.glob.keep hro fun _ h => .inl h
    · have t := h.trans
      refine ⟨ht'.os.trans t.os, ht'.tape.trans t.tape, ht'.output.trans t.output, Nat.le_trans t.size ht'.size, fun b hbl hno => (hframe b (Nat.lt_of_lt_of_le hbl t.size)).trans (t.frame b hbl hno), ?_, fun b hb => .inl (t.roKeep b hb), ?_, ?_, ?_, ?_⟩
      · intro b hb
        rcases hb with hb | hb
        · exact t.roSub b hb
        · rcases hroS b hb with hc | hc
          · exact t.roSub b hc
          · exact .inr (.inr (Nat.le_trans t.size hc))
      · rintro b ⟨id, p, hg, hp, hbk⟩
        rw [look] at hg
        by_cases hi : s.next ≤ id
        · simp only [hi, if_true] at hg hbk
          cases hs : hget τ' (id - s.next) with
          | none => simp [hs] at hg
          | some q =>
            have hql : q.live = true := by simp [hs] at hg; subst hg; cases q <;> first | rfl | exact hp
            exact .inr (Nat.le_trans t.size (newGe _ q b hs hql hbk))
        · simp only [hi, if_false] at hg hbk
          exact t.ownSub b ⟨id, p, hg, hp, hbk⟩
      · intro id hid p hg
        have h1 := h.base
        have hi : ¬ s.next ≤ id := by omega
        rw [look, if_neg hi] at hg
        simp only [hi, if_false]
        exact t.old id hid p hg
      · intro id p hg
        simp only [look] at hg
        by_cases hi : s.next ≤ id
        · simp only [hi, if_true] at hg
          cases hs : hget τ' (id - s.next) with
          | none => simp [hs] at hg
          | some q =>
            have := (belowH_at hK2 hs).1
            show id < s.next + K
            omega
        · show id < s.next + K
          omega
      · have := h.base
        show E.n ≤ s.next + K
        omega
    · exact ARel.shift hrel' (fun _ h => .inr h) hτlt
theorem OpStep.call {o : Oper} {x : Operand} {xs : Array Operand} {ts : Array TypeId} (ho : o.op = .call { callee := .value x, args := xs, argTypes := ts }) {f : FuncId} (hx : aval G s x = .fn (.func f) [] [])
    (hcb : callable P f = true) {args : List AV} (hargs : xs.toList.map (fun y => viewA s.heap (aval G s y)) = args) (hpure : pureL args = true) {R : AV → Heap → Prop} (hc : ACalls P G f args [] 0 R) {K : Nat} {r : AV} {τ : Heap}
    (hR : ∀ r' τ', R r' τ' → r' = r ∧ τ' = τ) (hK1 : belowA K r = true) (hK2 : belowH K τ = true) (hb : s.base ≤ s.next) :
    OpStep P G o s ({ s with heap := shiftH s.next τ ++ s.heap, next := s.next + K }.put o.dst (shiftA s.next r)) := (KStep.call ho hx hcb hargs hpure hc hR hK1 hK2 hb).op
end
end Go.Av
namespace Go.Av
open Go

section
variable {P : Program} {G : Glob} {o : Oper} {s : St}

theorem RRel.slLen {w : World} {ro : Nat → Prop} {n : Nat} {es : List (List RV)} {c : Value} (h : RRel w ro (.sl n es) c) : ∃ b cap, c = .slice b es.length cap := by
 cases h with
 | sl _ _ b cap => exact ⟨b, cap, rfl⟩

def alen (σ : Heap) : AV → Option Nat
 | .rv (.sl _ es) => some es.length
 | .rv (.v (.slice none 0 0)) => some 0
 | .sl id => match hget σ id with
  | some (.row _ _ _ es) => some es.length
  | _ => none
 | _ => none

theorem alen_rel {w : World} {ro : Nat → Prop} {σ : Heap} {β : Nat → Value} {N : Nat} (hh : HRel w ro σ β N) {x : AV} {c : Value} (h : ARel w ro σ β N x c) {m : Nat} (hm : alen σ x = some m) : ∃ b cap, c = .slice b m cap := by
 cases h with
 | rv x c hx =>
  cases hx with
  | v _ h1 =>
   cases c with
   | slice a l cp =>
    cases a with
    | none =>
     cases l with
     | zero =>
      cases cp with
      | zero => simp [alen] at hm; subst hm; exact ⟨_, _, rfl⟩
      | succ => simp [alen] at hm
     | succ => simp [alen] at hm
    | some => simp [alen] at hm
   | _ => simp [alen] at hm
  | ptr => simp [alen] at hm
  | mp => simp [alen] at hm
  | li => simp [alen] at hm
  | sl n es b cap c h1 h2 h3 h4 h5 =>
   simp only [alen, Option.some.injEq] at hm
   subst hm
   exact ⟨b, cap, rfl⟩
 | sl id c hl hp =>
  simp only [alen] at hm
  split at hm
  ·rename_i z t n es hg
   simp only [Option.some.injEq] at hm
   subst hm
   rw [hp z t n es hg]
   have := hh.objs id _ hg
   cases this with
   | row _ _ _ xs h1 =>
    rcases h1.2 with ⟨⟨_, hv, _⟩, hz⟩ | ⟨g, cap, cur, hv, _⟩
    ·rw [hv, hz]; exact ⟨_, _, rfl⟩
    ·rw [hv]; exact ⟨_, _, rfl⟩
   | fro _ _ _ h1 => exact h1.slLen
  ·cases hm
 | _ => simp [alen] at hm

def isSlice (P : Program) (t : TypeId) : Bool :=
 match P.underlying t with
 | some (.slice _) => true
 | _ => false

theorem R_len (x : Operand) (t : TypeId) (ho : o.op = .call { callee := .builtin .len, args := #[x], argTypes := #[t] }) (ht : isSlice P t = true) {m : Nat} (hm : alen s.heap (aval G s x) = some m) :
    VStep P G o s (.rv (.v (.int .i64 (m : Int)))) :=
  fun _ a w β ro hr => by
    obtain ⟨b, cap, hc⟩ := alen_rel hr.heap (hr.eval x) hm
    unfold isSlice at ht
    split at ht
    · rename_i e hu
      refine ⟨.int .i64 m, ?_, .ofV rfl⟩
      simp [execOp, ho, resolve, invoke, builtin, hc, Builtin.len_, run_underlying hu, goInt]
    · cases ht

theorem R_len_str (x : Operand) (t : TypeId) (ho : o.op = .call { callee := .builtin .len, args := #[x], argTypes := #[t] }) (ht : P.underlying t = some .string) {b : ByteArray} (hx : aval G s x = .rv (.v (.string b))) :
    VStep P G o s (.rv (.v (.int .i64 (b.size : Int)))) :=
  fun _ a w β ro hr => by
    refine ⟨.int .i64 b.size, ?_, .ofV rfl⟩
    simp [execOp, ho, resolve, invoke, builtin, hr.evalV hx, Builtin.len_, run_underlying ht, goInt]

def arrLen (P : Program) (t : TypeId) : Option Nat :=
 match P.underlying t with
 | some (.array n _) => some n
 | some (.pointer a) => match P.underlying a with
  | some (.array n _) => some n
  | _ => none
 | _ => none
theorem R_len_arr (x : Operand) (t : TypeId) (ho : o.op = .call { callee := .builtin .len, args := #[x], argTypes := #[t] }) {n : Nat} (ht : arrLen P t = some n) :
    VStep P G o s (.rv (.v (.int .i64 (n : Int)))) :=
  fun _ a w β ro hr => by
    refine ⟨.int .i64 n, ?_, .ofV rfl⟩
    unfold arrLen at ht
    split at ht
    · rename_i m e hu
      simp only [Option.some.injEq] at ht
      subst ht
      simp [execOp, ho, resolve, invoke, builtin, Builtin.len_, run_underlying hu, goInt]
    · rename_i p hu
      split at ht
      · rename_i m e hu2
        simp only [Option.some.injEq] at ht
        subst ht
        simp [execOp, ho, resolve, invoke, builtin, Builtin.len_, run_underlying hu, run_underlying hu2, goInt]
      · cases ht
    · cases ht

def elemSize (P : Program) (t : TypeId) : Option Nat :=
 match P.underlying t with
 | some (.slice e) => (P.info? e).map (·.size)
 | _ => none

theorem elemSize_run {t n : Nat} (h : elemSize P t = some n) : ∃ e, P.underlying t = some (.slice e) ∧ ∀ w, (sizeOf e).run P w = .ok n w := by
 unfold elemSize at h
 split at h
 ·rename_i e hu
  cases hi : P.info? e with
  | none => simp [hi] at h
  | some i =>
   simp [hi] at h
   subst h
   exact ⟨e, hu, fun w => by simp [sizeOf, typeInfo, hi]⟩
 ·cases h

def aelem (σ : Heap) (n j : Nat) : AV → Option AV
 | .rv (.sl m es) => if m = n then match es[j]? with
  | some e => some (.rv (.ptr e))
  | none => none
  else none
 | .sl id => match hget σ id with
  | some (.row false _ m es) => if m = n ∧ j < es.length then some (.eptr id j 0) else none
  | some (.row true _ m es) => if m = n then match es[j]? with
   | some e => some (.rv (.ptr e))
   | none => none
   else none
  | _ => none
 | _ => none

theorem RRel.elem {w : World} {ro : Nat → Prop} {n : Nat} {es : List (List RV)} {c : Value} (h : RRel w ro (.sl n es) c) {j : Nat} {e : List RV} (hj : es[j]? = some e) :
    ∃ a cap, c = .slice (some a) es.length cap ∧ RRel w ro (.ptr e) (.pointer (some (a.add (j * n)))) := by
  cases h with
  | sl _ _ b cap f h1 h2 h3 h4 h5 =>
    have hjl : j < es.length := (List.getElem?_eq_some_iff.1 hj).1
    obtain ⟨a, rfl, hc⟩ := h4 (by omega)
    have hel : e.length = n := h3 e (List.mem_of_getElem? hj)
    have hin : j * n + n ≤ es.length * n := by rw [← Nat.succ_mul]; exact Nat.mul_le_mul_right n hjl
    refine ⟨a, cap, rfl, .ptr _ _ (fun k => f (j * n + k)) (fun k x hk => ?_) (fun k x hk => ?_)⟩
    · have hkn : k < n := by have := (List.getElem?_eq_some_iff.1 hk).1; omega
      rw [addB, addAdd]
      exact hc _ (by omega)
    · have hkn : k < n := by have := (List.getElem?_eq_some_iff.1 hk).1; omega
      exact h5 _ _ (by rw [flatten_at h3 hj k hkn]; exact hk)

theorem aelem_rel {w : World} {ro : Nat → Prop} {σ : Heap} {β : Nat → Value} {N : Nat} (hh : HRel w ro σ β N) {x : AV} {c : Value} (h : ARel w ro σ β N x c) {n j : Nat} {p : AV} (hp : aelem σ n j x = some p) :
    ∃ a len cap, c = .slice (some a) len cap ∧ j < len ∧ ARel w ro σ β N p (.pointer (some (a.add (j * n)))) := by
  cases h with
  | rv x c hx =>
    cases x with
    | v => simp [aelem] at hp
    | ptr => simp [aelem] at hp
    | mp => simp [aelem] at hp
    | li => simp [aelem] at hp
    | sl m es =>
      simp only [aelem] at hp
      split at hp
      · rename_i hm
        subst hm
        split at hp
        · rename_i e he
          simp only [Option.some.injEq] at hp
          subst hp
          obtain ⟨a, cap, hc, hr⟩ := hx.elem he
          exact ⟨a, es.length, cap, hc, (List.getElem?_eq_some_iff.1 he).1, .rv _ _ hr⟩
        · cases hp
      · cases hp
  | sl id c hl hq =>
    simp only [aelem] at hp
    split at hp
    · rename_i t m es hg
      split at hp
      · rename_i hm
        obtain ⟨rfl, hj⟩ := hm
        simp only [Option.some.injEq] at hp
        subst hp
        have hO := hh.objs id _ hg
        cases hO with
        | row _ _ _ xs h1 =>
          rcases h1.2 with ⟨_, hz⟩ | ⟨g, cap, cur, hv, _⟩
          · omega
          · rw [hq _ _ _ _ hg, hv]
            refine ⟨_, _, _, rfl, hj, .eptr _ _ _ _ hl fun z' t' n' es' hg' => ?_⟩
            rw [hg] at hg'
            simp only [Option.some.injEq, AObj.row.injEq] at hg'
            obtain ⟨_, _, rfl, _⟩ := hg'
            exact ⟨g, _, _, hv, by rw [addLit]; simp⟩
      · cases hp
    · rename_i t m es hg
      split at hp
      · rename_i hm
        subst hm
        split at hp
        · rename_i e he
          simp only [Option.some.injEq] at hp
          subst hp
          have hO := hh.objs id _ hg
          cases hO with
          | fro _ _ _ h1 =>
            obtain ⟨a, cap, hc, hr⟩ := h1.elem he
            exact ⟨a, es.length, cap, by rw [hq _ _ _ _ hg, hc], (List.getElem?_eq_some_iff.1 he).1, .rv _ _ hr⟩
        · cases hp
      · cases hp
    · cases hp
  | _ => simp [aelem] at hp

theorem R_indexAddr (t : TypeId) (x i : Operand) (ho : o.op = .indexAddr t x i) {n : Nat} (ht : elemSize P t = some n) {k : IntKind} {j : Nat} (hi : aval G s i = .rv (.v (.int k (j : Int)))) {p : AV} (hp : aelem s.heap n j (aval G s x) = some p) :
    VStep P G o s p :=
  fun _ a w β ro hr => by
    obtain ⟨ad, len, cap, hc, hj, hrel⟩ := aelem_rel hr.heap (hr.eval x) hp
    obtain ⟨e, hu, hsz⟩ := elemSize_run ht
    refine ⟨_, ?_, hrel⟩
    have hij : (0 : Int) ≤ j ∧ (j : Int) < len := ⟨by omega, by omega⟩
    simp [execOp, ho, hc, hr.evalV hi, Instr.indexAt, asIntOf, run_underlying hu, hj, hsz]

def arrElem (P : Program) (t : TypeId) : Option (Nat × Nat) :=
 match P.underlying t with
 | some (.array n e) => (P.info? e).map fun i => (n, i.size)
 | _ => none
theorem R_indexAddr_arr (t : TypeId) (x i : Operand) (ho : o.op = .indexAddr t x i) {len n : Nat} (ht : arrElem P t = some (len, n)) {k : IntKind} {j : Nat} (hi : aval G s i = .rv (.v (.int k (j : Int)))) (hj : j < len)
    {cs : List AV} (hcs : acells s.heap (aval G s x) = some cs) {p : AV} (hp : ashift (j * n) (aval G s x) = some p) :
    VStep P G o s p :=
  fun _ a w β ro hr => by
    obtain ⟨ad, hc, hrel⟩ := ashift_rel hp hcs (hr.eval x)
    unfold arrElem at ht
    split at ht
    · rename_i m e hu
      cases hie : P.info? e with
      | none => simp [hie] at ht
      | some ie =>
        simp [hie] at ht
        obtain ⟨rfl, rfl⟩ := ht
        refine ⟨_, ?_, hrel⟩
        simp [execOp, ho, hc, hr.evalV hi, Instr.indexAt, asIntOf, run_underlying hu, Instr.sureAddr, hj, sizeOf, typeInfo, hie]
    · cases ht

theorem R_index_str (t : TypeId) (x i : Operand) (ho : o.op = .index t x i) (ht : P.underlying t = some .string) {k : IntKind} {j : Nat} (hi : aval G s i = .rv (.v (.int k (j : Int)))) {b : ByteArray} (hx : aval G s x = .rv (.v (.string b)))
    {u : UInt8} (hu : b.data.toList[j]? = some u) : VStep P G o s (.rv (.v (.int .u8 (u.toNat : Int)))) :=
  fun _ a w β ro hr => by
    have hj : b[j]? = some u := by
      have h1 : j < b.size := by have := (List.getElem?_eq_some_iff.1 hu).1; simpa using this
      rw [ByteArray.getElem?_lt' b j h1]
      rw [List.getElem?_eq_some_iff] at hu
      obtain ⟨_, h2⟩ := hu
      simp only [Option.some.injEq]
      rw [← h2]
      rfl
    exact ⟨_, by simp [execOp, ho, hr.evalV hx, hr.evalV hi, Instr.index, asIntOf, run_underlying ht, hj], .ofV rfl⟩

def fldPart (P : Program) (t : TypeId) (f : Nat) : Option (Nat × Option Nat) :=
 match P.underlying t with
 | some (.struct fs) => match fs[f]? with
  | some fd => if scalar P fd.type then some (fd.offset, none) else match aggSize P fd.type with
   | some n => some (fd.offset, some n)
   | none => none
  | none => none
 | _ => none

theorem R_field (t : TypeId) (x : Operand) (f : Nat) (ho : o.op = .field t x f) {off : Nat} (ht : fldPart P t f = some (off, none)) {cs : List AV} (hx : aval G s x = .agg cs) {v : AV} (hv : cs[off]? = some v) :
    VStep P G o s v :=
  fun _ a w β ro hr => by
    have h := hr.eval x
    rw [hx] at h
    generalize he : a.eval x = c at h
    cases h with
    | agg _ c hs hc =>
      have hlt : off < c.size := by have := (List.getElem?_eq_some_iff.1 hv).1; omega
      unfold fldPart at ht
      split at ht
      · rename_i fs hu
        split at ht
        · rename_i fd hf
          split at ht
          · rename_i hsc
            simp only [Option.some.injEq, Prod.mk.injEq, and_true] at ht
            subst ht
            refine ⟨c[fd.offset], ?_, by simpa [hlt] using hc _ v hv⟩
            simp [execOp, ho, he, Instr.field, run_underlying hu, hf, asAgg, part, run_isAgg_scalar hsc, hlt]
          · split at ht
            · simp at ht
            · cases ht
        · cases ht
      · cases ht

theorem R_field_agg (t : TypeId) (x : Operand) (f : Nat) (ho : o.op = .field t x f) {off n : Nat} (ht : fldPart P t f = some (off, some n)) {cs : List AV} (hx : aval G s x = .agg cs) (hn : off + n ≤ cs.length) :
    VStep P G o s (.agg ((cs.drop off).take n)) :=
  fun _ a w β ro hr => by
    have h := hr.eval x
    rw [hx] at h
    generalize he : a.eval x = c at h
    cases h with
    | agg _ c hs hc =>
      unfold fldPart at ht
      split at ht
      · rename_i fs hu
        split at ht
        · rename_i fd hf
          split at ht
          · simp at ht
          · split at ht
            · rename_i m hag
              simp only [Option.some.injEq, Prod.mk.injEq] at ht
              obtain ⟨rfl, rfl⟩ := ht
              obtain ⟨g1, g2⟩ := run_isAgg_agg hag w
              refine ⟨.agg (c.extract fd.offset (fd.offset + m)), ?_, .agg _ _ (by simp; omega) fun j y hj => ?_⟩
              · simp [execOp, ho, he, Instr.field, run_underlying hu, hf, asAgg, part, g1, g2]
              · rw [List.getElem?_take] at hj
                split at hj
                · rename_i hjm
                  rw [List.getElem?_drop] at hj
                  have := hc _ y hj
                  have h1 : fd.offset + j < c.size := by omega
                  have h2 : j < (c.extract fd.offset (fd.offset + m)).size := by simp; omega
                  simp only [Array.getD, h2, dif_pos]
                  simpa [h1] using this
                · cases hj
            · cases ht
        · cases ht
      · cases ht

def places (P : Program) (t : TypeId) : Option (Nat → Option (Nat × Nat)) :=
 match P.underlying t with
 | some (.struct fs) => if fs.toList.all fun f => (P.info? f.type).isSome then some fun i => (fs.toList.map fun f => (f.offset, ((P.info? f.type).map (·.size)).getD 0))[i]? else none
 | some (.array _ e) => match P.info? e with
  | some inf => some fun i => some (i * inf.size, inf.size)
  | none => none
 | _ => none

def afill (place : Nat → Option (Nat × Nat)) : List AV → List (Nat × AV) → Option (List AV)
 | cs, [] => some cs
 | cs, (i, v) :: rest => match place i with
  | some (off, size) => if (vcells v).length = size ∧ off + size ≤ cs.length then afill place (splice cs off (vcells v)) rest else none
  | none => none

theorem foldl_set_zipIdx (off : Nat) : ∀ (vs : List Value) (k : Nat) (cs : Array Value), off + k + vs.length ≤ cs.size →
    ((vs.zipIdx k).foldl (fun (cs : Array Value) (x : Value × Nat) => cs.setIfInBounds (off + x.2) x.1) cs).toList = splice cs.toList (off + k) vs
  | [], k, cs, h => by simp [splice]
  | v :: vs, k, cs, h => by
    simp only [List.zipIdx_cons, List.foldl_cons]
    rw [foldl_set_zipIdx off vs (k + 1) (cs.setIfInBounds (off + k) v) (by simp at h ⊢; omega)]
    have e := list_seg_step cs.toList (off + k) v vs (by simp at h ⊢; omega)
    simp only [splice, Array.toList_setIfInBounds, ← Nat.add_assoc] at *
    simp only [List.append_assoc] at e
    rw [e]
    simp [Nat.add_assoc]

theorem afill_run {place place' : Nat → Option (Nat × Nat)} (hpl : ∀ i p, place i = some p → place' i = some p) {w : World} {ro : Nat → Prop} {σ : Heap} {β : Nat → Value} {N : Nat} (hh : HRel w ro σ β N) :
    ∀ {ps : List (Nat × AV)} {qs : List (Nat × Value)} {cs ds : List AV} {xs : Array Value}, afill place cs ps = some ds → ps.map (·.1) = qs.map (·.1) → (∀ (j : Nat) (p : Nat × AV) (q : Nat × Value), ps[j]? = some p → qs[j]? = some q → ARel w ro σ β N p.2 q.2 ∧ (vcells p.2).all (cellOkIn σ) = true) →
    xs.size = cs.length → (∀ j x, cs[j]? = some x → ARel w ro σ β N x (xs.getD j undef)) →
    ∃ ys, Instr.fill place' xs qs = some ys ∧ ys.size = ds.length ∧ ∀ j x, ds[j]? = some x → ARel w ro σ β N x (ys.getD j undef)
  | [], qs, cs, ds, xs, hf, hk, _, hs, hx => by
    simp [afill] at hf
    subst hf
    have : qs = [] := by cases qs with
      | nil => rfl
      | cons => simp at hk
    subst this
    exact ⟨xs, by simp [Instr.fill], hs, hx⟩
  | (i, v) :: ps, [], cs, ds, xs, hf, hk, _, hs, hx => by simp at hk
  | (i, v) :: ps, (i', u) :: qs, cs, ds, xs, hf, hk, hr, hs, hx => by
    simp only [List.map_cons, List.cons.injEq] at hk
    obtain ⟨rfl, hk⟩ := hk
    simp only [afill] at hf
    split at hf
    · rename_i off size hp
      split at hf
      · rename_i hc
        obtain ⟨hc1, hc2⟩ := hc
        have hrel : ARel w ro σ β N v u := (hr 0 (i, v) (i, u) rfl rfl).1
        have hall : (vcells v).all (cellOkIn σ) = true := (hr 0 (i, v) (i, u) rfl rfl).2
        obtain ⟨g1, g2, _⟩ := hrel.vcells hall hh
        have hfold := foldl_set_zipIdx off u.cells.toList 0 xs (by simp; omega)
        simp only [Nat.add_zero] at hfold
        have ih := afill_run hpl hh (ps := ps) (qs := qs) (cs := splice cs off (vcells v)) (ds := ds) (xs := (splice xs.toList off u.cells.toList).toArray) hf hk (fun j p q h1 h2 => hr (j + 1) p q h1 h2)
          (by rw [List.size_toArray, splice_length _ _ _ (by simp; omega), splice_length _ _ _ (by omega)]; simpa using hs) (fun j x hj => by
            have := splice_rel (ARel w ro σ β N) undef (cs := cs) (vs := vcells v) (xs := xs.toList) (ys := u.cells.toList) (off := off) (by simp; omega) (by simp; omega) (by omega)
              (fun j x hj => by have := hx j x hj; simpa [Array.getD_eq_getD_getElem?, List.getD] using this) (fun j x hj => by have := g2 j x hj; simpa [Array.getD_eq_getD_getElem?, List.getD] using this) j x hj
            simpa [Array.getD_eq_getD_getElem?, List.getD] using this)
        obtain ⟨ys, h1, h2, h3⟩ := ih
        refine ⟨ys, ?_, h2, h3⟩
        rw [Instr.fill.eq_2, hpl _ _ hp]
        simp only
        rw [if_neg (by simp; omega)]
        have hfa : Array.foldl (fun cs x => match x with
            | (c, j) => cs.setIfInBounds (off + j) c) xs u.cells.zipIdx = (splice xs.toList off u.cells.toList).toArray := by
          apply Array.ext'
          rw [← hfold, ← Array.foldl_toList]
          simp
        rw [hfa]
        exact h1
      · cases hf
    · cases hf


theorem run_places (w : World) : ∀ l : List Field, (l.all fun f => (P.info? f.type).isSome) = true → (l.mapM (fun f => do
    let n ← sizeOf f.type
    pure (f.offset, n) : Field → Sem (Nat × Nat))).run P w = .ok (l.map fun f => (f.offset, ((P.info? f.type).map (·.size)).getD 0)) w
  | [], _ => by simp
  | f :: r, h => by
    simp only [List.all_cons, Bool.and_eq_true] at h
    have ih := run_places w r h.2
    cases hi : P.info? f.type with
    | none => simp [hi] at h
    | some inf =>
      have h1 : (sizeOf f.type).run P w = .ok inf.size w := by simp [sizeOf, typeInfo, hi]
      simp only [List.mapM_cons, Sem.run_bind, h1, Result.andThen_ok, Sem.run_pure, ih]
      simp [hi]

theorem run_build {t : TypeId} {pl : Nat → Option (Nat × Nat)} (hp : places P t = some pl) {zs : List Value} (hz : zeroCells P t = some zs) {parts : Array (Nat × Value)} {ys : Array Value} (hf : Instr.fill pl zs.toArray parts.toList = some ys) (w : World) :
    (Instr.build t parts).run P w = .ok (.agg ys) w := by
  obtain ⟨z, hrz, hzc, _⟩ := run_zero hz w
  unfold places at hp
  split at hp
  · rename_i fs hu
    split at hp
    · rename_i hall
      simp only [Option.some.injEq] at hp
      subst hp
      have h1 := run_places w fs.toList hall
      have h2 : (fs.mapM (fun f => do
          let n ← sizeOf f.type
          pure (f.offset, n) : Field → Sem (Nat × Nat))).run P w = .ok (fs.toList.map fun f => (f.offset, ((P.info? f.type).map (·.size)).getD 0)).toArray w := by
        rw [Array.mapM_eq_mapM_toList]
        simp only [Sem.run_map, h1]
        rfl
      simp only [Instr.build, Sem.run_bind, hrz, Result.andThen_ok, run_underlying hu, h2, hzc]
      have h3 : (fun (x : Nat) => (fs.toList.map fun f => (f.offset, ((P.info? f.type).map (·.size)).getD 0)).toArray[x]?) = (fun (i : Nat) => (fs.toList.map fun f => (f.offset, ((P.info? f.type).map (·.size)).getD 0))[i]?) := by
        funext i; simp
      rw [h3, hf]
      rfl
    · cases hp
  · rename_i n e hu
    split at hp
    · rename_i inf hi
      simp only [Option.some.injEq] at hp
      subst hp
      have h1 : (sizeOf e).run P w = .ok inf.size w := by simp [sizeOf, typeInfo, hi]
      simp only [Instr.build, Sem.run_bind, hrz, Result.andThen_ok, run_underlying hu, h1, hzc, hf]
      rfl
    · cases hp
  · cases hp

theorem zs_rel {w : World} {ro : Nat → Prop} {σ : Heap} {β : Nat → Value} {N : Nat} {zs : List Value} (hall : zs.all Value.oneCell' = true) : ∀ (j : Nat) (x : AV), (zs.map fun z => AV.rv (.v z))[j]? = some x → ARel w ro σ β N x (zs.toArray.getD j undef) := by
 intro j x hj
 rw [List.getElem?_map] at hj
 cases hzj : zs[j]? with
 | none => simp [hzj] at hj
 | some y =>
  simp [hzj] at hj
  subst hj
  have : y.oneCell' = true := by
   rw [List.all_eq_true] at hall
   exact hall y (List.mem_of_getElem? hzj)
  simpa [hzj] using ARel.rv (w := w) (ro := ro) (σ := σ) (β := β) (N := N) _ _ (.v y this)

theorem parts_rel {E : Entry} {a : Act} {w : World} {β : Nat → Value} {ro : Nat → Prop} (hr : RelAt E G s a w β ro) {parts : Array (Nat × Operand)} {ps : List (Nat × AV)} (hps : parts.toList.map (fun p => (p.1, aval G s p.2)) = ps)
    (hall : ps.all (fun p => (vcells p.2).all (cellOkIn s.heap)) = true) :
    ps.map (·.1) = (parts.map fun p => (p.1, a.eval p.2)).toList.map (·.1) ∧
    ∀ (j : Nat) (p : Nat × AV) (q : Nat × Value), ps[j]? = some p → (parts.map fun p => (p.1, a.eval p.2)).toList[j]? = some q → ARel w ro s.heap β s.next p.2 q.2 ∧ (vcells p.2).all (cellOkIn s.heap) = true := by
  subst hps
  refine ⟨by simp, fun j p q h1 h2 => ?_⟩
  have hp : (vcells p.2).all (cellOkIn s.heap) = true := by
    rw [List.all_eq_true] at hall
    exact hall p (List.mem_of_getElem? h1)
  rw [List.getElem?_map] at h1
  rw [Array.toList_map, List.getElem?_map] at h2
  cases hj : parts.toList[j]? with
  | none => simp [hj] at h1
  | some y =>
    simp [hj] at h1 h2
    subst h1 h2
    exact ⟨hr.eval _, hp⟩

theorem R_build (t : TypeId) (parts : Array (Nat × Operand)) (ho : o.op = .build t parts) {pl : Nat → Option (Nat × Nat)} (hp : places P t = some pl) {zs : List Value} (hz : zeroCells P t = some zs) (hzall : zs.all Value.oneCell' = true)
    {ps : List (Nat × AV)} (hps : parts.toList.map (fun p => (p.1, aval G s p.2)) = ps) (hall : ps.all (fun p => (vcells p.2).all (cellOkIn s.heap)) = true) {ds : List AV} (hf : afill pl (zs.map fun z => .rv (.v z)) ps = some ds) :
    VStep P G o s (.agg ds) :=
  fun _ a w β ro hr => by
    obtain ⟨h1, h2⟩ := parts_rel hr hps hall
    obtain ⟨ys, g1, g2, g3⟩ := afill_run (place' := pl) (fun _ _ h => h) hr.heap hf h1 h2 (xs := zs.toArray) (by simp) (zs_rel hzall)
    refine ⟨.agg ys, ?_, .agg _ _ g2 g3⟩
    have hb := run_build (P := P) hp hz g1 w
    simp only [execOp, ho, Sem.run_bind]
    erw [hb]
    rfl
end
end Go.Av
namespace Go.Av
open Go

mutual
def killA (id : Nat) : AV → AV
 | .rv x => .rv x
 | .agg cs => .agg (killL id cs)
 | .tuple cs => .tuple (killL id cs)
 | .ptr k off => if k = id then .top else .ptr k off
 | .bsl k off => if k = id then .top else .bsl k off
 | .eptr k i off => if k = id then .top else .eptr k i off
 | .sl k => if k = id then .top else .sl k
 | .fn f p q => .fn f (killL id p) (killL id q)
 | .ref k => if k = id then .top else .ref k
 | .top => .top
def killL (id : Nat) : List AV → List AV
 | [] => []
 | x :: r => killA id x :: killL id r
end
def killH (id : Nat) : Heap → Heap
 | [] => []
 | (k, .box t cs) :: r => if k = id then killH id r else (k, .box t (killL id cs)) :: killH id r
 | (k, .row z t n es) :: r => if k = id then killH id r else (k, .row z t n es) :: killH id r
 | (k, .oth Φ) :: r => if k = id then killH id r else (k, .oth Φ) :: killH id r
def killO (id : Nat) : AObj → AObj
 | .box t cs => .box t (killL id cs)
 | .row z t n es => .row z t n es
 | .oth Φ => .oth Φ

theorem killL_length (d : Nat) : ∀ (l : List AV), (killL d l).length = l.length
 | [] => rfl
 | x :: r => by simp [killL, killL_length d r]
theorem killL_at (d : Nat) : ∀ {l : List AV} {j : Nat} {x : AV}, (killL d l)[j]? = some x → ∃ y, l[j]? = some y ∧ x = killA d y
 | [], j, x, h => by simp [killL] at h
 | y :: r, j, x, h => by
  cases j with
  | zero => simp [killL] at h; exact ⟨y, by simp, h.symm⟩
  | succ j => simp [killL] at h; simpa using killL_at d h
theorem hget_killH (id : Nat) : ∀ (σ : Heap) (k : Nat), hget (killH id σ) k = if k = id then none else (hget σ k).map (killO id)
 | [], k => by simp [killH, hget]
 | (j, .box t cs) :: r, k => by
  have ih := hget_killH id r k
  by_cases hj : j = id
  ·subst hj
   by_cases hk : k = j
   ·subst hk; simpa [killH] using ih
   ·simp [killH, hget, ih, hk, Ne.symm hk]
  ·by_cases hk : j = k
   ·subst hk; simp [killH, hget, hj, killO]
   ·simp [killH, hget, hj, hk, ih]
 | (j, .row z t n es) :: r, k => by
  have ih := hget_killH id r k
  by_cases hj : j = id
  ·subst hj
   by_cases hk : k = j
   ·subst hk; simpa [killH] using ih
   ·simp [killH, hget, ih, hk, Ne.symm hk]
  ·by_cases hk : j = k
   ·subst hk; simp [killH, hget, hj, killO]
   ·simp [killH, hget, hj, hk, ih]
 | (j, .oth Φ) :: r, k => by
  have ih := hget_killH id r k
  by_cases hj : j = id
  ·subst hj
   by_cases hk : k = j
   ·subst hk; simpa [killH] using ih
   ·simp [killH, hget, ih, hk, Ne.symm hk]
  ·by_cases hk : j = k
   ·subst hk; simp [killH, hget, hj, killO]
   ·simp [killH, hget, hj, hk, ih]

theorem killO_live (id : Nat) (o : AObj) : (killO id o).live = o.live := by cases o <;> rfl

section
variable {P : Program} {G : Glob} {s : St} {E : Entry} {a : Act} {w w' : World} {β : Nat → Value} {ro : Nat → Prop}

theorem RelAt.renew (h : RelAt E G s a w β ro) (id : Nat) (hb : s.base ≤ id) (hlt : id < s.next) {t0 : TypeId} {n0 : Nat} {es0 : List (List RV)} (hid : hget s.heap id = some (.row false t0 n0 es0)) (o : AObj) (val : Value)
    (hos : w'.os = w.os) (htape : w'.tape = w.tape) (hout : w'.output = w.output) (hsz : w.heap.size ≤ w'.heap.size) (hw : ∀ b, b < w.heap.size → blk (β id) ≠ some b → w'.heap[b]? = w.heap[b]?)
    (hblk : ∀ b, blk val = some b → blk (β id) = some b ∨ w.heap.size ≤ b) (_hlive : o.live = true)
    (hO : ORel w' ro ((id, o) :: killH id s.heap) (upd β id val) s.next id o) :
    RelAt E G ⟨killL id s.slots, (id, o) :: killH id s.heap, s.next, s.base⟩ a w' (upd β id val) ro := by
  have hro : ∀ b, ro b → w'.heap[b]? = w.heap[b]? := fun b hr => hw b (h.heap.lt b hr) fun hb => h.heap.disj b hr ⟨id, _, hid, rfl, hb⟩
  have hg : ∀ k, k ≠ id → hget ((id, o) :: killH id s.heap) k = (hget s.heap k).map (killO id) := fun k hk => by simp [hget, Ne.symm hk, hget_killH, hk]
  have hgi : hget ((id, o) :: killH id s.heap) id = some o := by simp [hget]
  have key : ∀ x c, ARel w ro s.heap β s.next x c → ARel w' ro ((id, o) :: killH id s.heap) (upd β id val) s.next (killA id x) c := by
    intro x c hx
    induction hx with
    | rv x c hx => exact .rv x c (hx.keep hro fun _ h => h)
    | agg cs c hs _ ih =>
      refine .agg _ c (by rw [killL_length]; exact hs) fun j x hj => ?_
      obtain ⟨y, hy, rfl⟩ := killL_at id hj
      exact ih j y hy
    | tuple cs c hs _ ih =>
      refine .tuple _ c (by rw [killL_length]; exact hs) fun j x hj => ?_
      obtain ⟨y, hy, rfl⟩ := killL_at id hj
      exact ih j y hy
    | ptr k off c hl hp =>
      simp only [killA]
      split
      · exact .top _
      · rename_i hk
        refine .ptr k off c hl fun t cs hgk => ?_
        rw [upd_ne _ _ hk]
        rw [hg k hk] at hgk
        cases hs : hget s.heap k with
        | none => simp [hs] at hgk
        | some p =>
          cases p with
          | box t' cs' => exact hp t' cs' hs
          | row => simp [hs, killO] at hgk
          | oth => simp [hs, killO] at hgk
    | bsl k off c hl hp =>
      simp only [killA]
      split
      · exact .top _
      · rename_i hk
        refine .bsl k off c hl fun t cs hgk => ?_
        rw [upd_ne _ _ hk]
        rw [hg k hk] at hgk
        cases hs : hget s.heap k with
        | none => simp [hs] at hgk
        | some p =>
          cases p with
          | box t' cs' => exact hp t' cs' hs
          | row => simp [hs, killO] at hgk
          | oth => simp [hs, killO] at hgk
    | eptr k i off c hl hp =>
      simp only [killA]
      split
      · exact .top _
      · rename_i hk
        refine .eptr k i off c hl fun z t n es hgk => ?_
        rw [upd_ne _ _ hk]
        rw [hg k hk] at hgk
        cases hs : hget s.heap k with
        | none => simp [hs] at hgk
        | some p =>
          cases p with
          | box t' cs' => simp [hs, killO] at hgk
          | oth => simp [hs, killO] at hgk
          | row z' t' n' es' =>
            simp only [hs, Option.map_some, killO, Option.some.injEq, AObj.row.injEq] at hgk
            obtain ⟨rfl, rfl, rfl, rfl⟩ := hgk
            exact hp _ _ _ _ hs
    | sl k c hl hp =>
      simp only [killA]
      split
      · exact .top _
      · rename_i hk
        refine .sl k c hl fun z t n es hgk => ?_
        rw [upd_ne _ _ hk]
        rw [hg k hk] at hgk
        cases hs : hget s.heap k with
        | none => simp [hs] at hgk
        | some p =>
          cases p with
          | box t' cs' => simp [hs, killO] at hgk
          | oth => simp [hs, killO] at hgk
          | row z' t' n' es' => exact hp _ _ _ _ hs
    | fn f p q c d h1 h2 _ _ ih1 ih2 =>
      refine .fn f _ _ c d (by rw [killL_length]; exact h1) (by rw [killL_length]; exact h2) (fun j x hj => ?_) (fun j x hj => ?_)
      · obtain ⟨y, hy, rfl⟩ := killL_at id hj
        exact ih1 j y hy
      · obtain ⟨y, hy, rfl⟩ := killL_at id hj
        exact ih2 j y hy
    | ref k c hl hp =>
      simp only [killA]
      split
      · exact .top _
      · rename_i hk
        refine .ref k c hl fun Φ hgk => ?_
        rw [upd_ne _ _ hk]
        rw [hg k hk] at hgk
        cases hs : hget s.heap k with
        | none => simp [hs] at hgk
        | some p =>
          cases p with
          | box => simp [hs, killO] at hgk
          | row => simp [hs, killO] at hgk
          | oth Φ' => exact hp Φ' hs
    | top c => exact .top c
  have old : ∀ k p, k ≠ id → hget ((id, o) :: killH id s.heap) k = some p → ∃ q, hget s.heap k = some q ∧ p = killO id q := by
    intro k p hk hgk
    rw [hg k hk] at hgk
    cases hs : hget s.heap k with
    | none => simp [hs] at hgk
    | some q => simp [hs] at hgk; exact ⟨q, rfl, hgk.symm⟩
  refine ⟨h.defers, by simpa [killL_length] using h.size, fun i x hx => ?_, ⟨fun k p hk => ?_, fun k k' p p' b hk hk' hp hp' hbk hbk' => ?_, fun b hr => ?_, fun b hr => Nat.lt_of_lt_of_le (h.heap.lt b hr) hsz⟩,
    h.glob.keep hro fun _ h => h, ?_, h.base⟩
  · obtain ⟨y, hy, rfl⟩ := killL_at id hx
    exact key _ _ (h.slot i y hy)
  · by_cases hki : k = id
    · subst hki
      rw [hgi] at hk
      simp only [Option.some.injEq] at hk
      subst hk
      exact hO
    · obtain ⟨q, hq, rfl⟩ := old k p hki hk
      have hoo := h.heap.objs k q hq
      have hne : q.live = true → ∀ b, blk (β k) = some b → w'.heap[b]? = w.heap[b]? := fun hl b hbk =>
        hw b (hoo.blkLt hl hbk) fun hbi => hki (h.heap.inj k id q _ b hq hid hl rfl hbk hbi)
      cases hoo with
      | box t cs b arr h1 h2 h3 h4 =>
        refine .box t _ b arr (by rw [upd_ne _ _ hki]; exact h1) ((hne rfl b (by rw [h1]; rfl)).trans h2) (by rw [killL_length]; exact h3) fun j x hj => ?_
        obtain ⟨y, hy, rfl⟩ := killL_at id hj
        exact key _ _ (h4 j y hy)
      | row t n es xs h1 h2 h3 => exact .row t n es xs (by rw [upd_ne _ _ hki]; exact h1.keep (fun b hb => hne rfl b hb) hsz) h2 fun j x hj => (h3 j x hj).keep hro fun _ h => h
      | fro t n es h1 => exact .fro t n es (by rw [upd_ne _ _ hki]; exact h1.keep hro fun _ h => h)
      | oth Φ b o h1 h2 h3 => exact .oth Φ b o (by rw [upd_ne _ _ hki]; exact h1) ((hne rfl b h1).trans h2) (by rw [upd_ne _ _ hki]; exact Φ.mono _ _ _ _ (fun x c h => h.keep hro fun _ h => h) h3)
  · by_cases hki : k = id
    · by_cases hki' : k' = id
      · rw [hki, hki']
      · subst hki
        rw [upd_same] at hbk
        rw [upd_ne _ _ hki'] at hbk'
        obtain ⟨q, hq, rfl⟩ := old k' p' hki' hk'
        rw [killO_live] at hp'
        have h2 := (h.heap.objs k' q hq).blkLt hp' hbk'
        rcases hblk b hbk with h1 | h1
        · exact (h.heap.inj k' k q _ b hq hid hp' rfl hbk' h1).symm
        · omega
    · obtain ⟨q, hq, rfl⟩ := old k p hki hk
      rw [killO_live] at hp
      rw [upd_ne _ _ hki] at hbk
      by_cases hki' : k' = id
      · subst hki'
        rw [upd_same] at hbk'
        have h2 := (h.heap.objs k q hq).blkLt hp hbk
        rcases hblk b hbk' with h1 | h1
        · exact h.heap.inj k k' q _ b hq hid hp rfl hbk h1
        · omega
      · obtain ⟨q', hq', rfl⟩ := old k' p' hki' hk'
        rw [killO_live] at hp'
        rw [upd_ne _ _ hki'] at hbk'
        exact h.heap.inj k k' q q' b hq hq' hp hp' hbk hbk'
  · rintro ⟨k, p, hk, hp, hbk⟩
    by_cases hki : k = id
    · subst hki
      rw [upd_same] at hbk
      rcases hblk b hbk with h1 | h1
      · exact h.heap.disj b hr ⟨k, _, hid, rfl, h1⟩
      · have := h.heap.lt b hr; omega
    · obtain ⟨q, hq, rfl⟩ := old k p hki hk
      rw [killO_live] at hp
      rw [upd_ne _ _ hki] at hbk
      exact h.heap.disj b hr ⟨k, q, hq, hp, hbk⟩
  · have t := h.trans
    refine ⟨hos.trans t.os, htape.trans t.tape, hout.trans t.output, Nat.le_trans t.size hsz, fun b hbl hno => ?_, t.roSub, t.roKeep, ?_, fun k hk p hgk => ?_, fun k p hgk => ?_, t.le⟩
    · by_cases hbi : blk (β id) = some b
      · rcases t.ownSub b ⟨id, _, hid, rfl, hbi⟩ with hc | hc
        · exact absurd hc hno
        · omega
      · rw [hw b (Nat.lt_of_lt_of_le hbl t.size) hbi]
        exact t.frame b hbl hno
    · rintro b ⟨k, p, hk, hp, hbk⟩
      by_cases hki : k = id
      · subst hki
        rw [upd_same] at hbk
        rcases hblk b hbk with h1 | h1
        · exact t.ownSub b ⟨k, _, hid, rfl, h1⟩
        · exact .inr (Nat.le_trans t.size h1)
      · obtain ⟨q, hq, rfl⟩ := old k p hki hk
        rw [killO_live] at hp
        rw [upd_ne _ _ hki] at hbk
        exact t.ownSub b ⟨k, q, hq, hp, hbk⟩
    · have hki : k ≠ id := by have := h.base; omega
      obtain ⟨q, hq, rfl⟩ := old k p hki hgk
      rw [upd_ne _ _ hki]
      exact t.old k hk q hq
    · by_cases hki : k = id
      · subst hki; exact hlt
      · obtain ⟨q, hq, rfl⟩ := old k p hki hgk
        exact t.new k q hq

def chunk {α : Type} (n : Nat) : Nat → List α → List (List α)
 | 0, _ => []
 | k + 1, l => l.take n :: chunk n k (l.drop n)

theorem chunk_length {α : Type} (n : Nat) : ∀ (k : Nat) (l : List α), (chunk n k l).length = k
 | 0, _ => rfl
 | k + 1, l => by simp [chunk, chunk_length n k]
theorem chunk_all {α : Type} (n : Nat) : ∀ (k : Nat) (l : List α), l.length = k * n → ∀ e ∈ chunk n k l, e.length = n
 | 0, _, _, e, he => by simp [chunk] at he
 | k + 1, l, h, e, he => by
  rw [Nat.succ_mul] at h
  simp only [chunk, List.mem_cons] at he
  rcases he with rfl | he
  ·simp; omega
  ·exact chunk_all n k (l.drop n) (by simp; omega) e he
theorem chunk_flatten {α : Type} (n : Nat) : ∀ (k : Nat) (l : List α), l.length = k * n → (chunk n k l).flatten = l
 | 0, l, h => by
  have : l = [] := List.eq_nil_of_length_eq_zero (by simpa using h)
  simp [chunk, this]
 | k + 1, l, h => by
  rw [Nat.succ_mul] at h
  simp only [chunk, List.flatten_cons]
  rw [chunk_flatten n k (l.drop n) (by simp; omega), List.take_append_drop]

theorem RowIs.of_owns {w : World} {t : TypeId} {n : Nat} {v : Value} {len : Nat} {xs : List Value} (h : w.ownsRow 0 t n v len xs) : RowIs w t n v len xs := by
 obtain ⟨hl, hr⟩ := h
 refine ⟨hl, ?_⟩
 rcases hr with ⟨h1, h2⟩ | ⟨g, cap, cur, hv, _, hg, hle, hcm, hcs, ht⟩
 ·exact .inl ⟨⟨none, h1, fun _ h => (by cases h)⟩, h2⟩
 ·by_cases hc : cap = 0
  ·subst hc
   have : len = 0 := by omega
   subst this
   exact .inl ⟨⟨_, hv, fun a ha => (by cases ha; exact (Array.getElem?_eq_some_iff.1 hg).1)⟩, rfl⟩
  ·exact .inr ⟨g, cap, cur, hv, by omega, hg, hle, hcm, hcs, ht⟩

def NRow (P : Program) (G : Glob) (o : Oper) (s : St) (t : TypeId) (n : Nat) (es : List (List RV)) : Prop :=
  (∀ e ∈ es, e.length = n) ∧ ∀ E a w β ro, RelAt E G s a w β ro → ∃ v xs w', (execOp a.eval o).run P w = .ok (.value v) w' ∧ w'.ownsRow 0 t n v es.length xs ∧ w.grownBy w' none ∧ (∀ b, blk v = some b → w.heap.size ≤ b) ∧
      ∀ j x, es.flatten[j]? = some x → RRel w ro x (xs.getD j undef)

theorem OpStep.newRow {o : Oper} {t : TypeId} {n : Nat} {es : List (List RV)} (hb : s.base ≤ s.next) (hh : NRow P G o s t n es) :
    OpStep P G o s ({ s with heap := (s.next, .row false t n es) :: s.heap, next := s.next + 1 }.put o.dst (.sl s.next)) := by
  obtain ⟨hn, h⟩ := hh
  intro E a w ⟨β, ro, hr⟩ K Q hK
  obtain ⟨v, xs, w', hrun, hown, hgr, hblk, hcells⟩ := h E a w β ro hr
  unfold Oper.wp
  rw [hrun]
  have hnone : hget s.heap s.next = none := by
    cases hg : hget s.heap s.next with
    | none => rfl
    | some p => have := hr.trans.new _ _ hg; omega
  have hw : ∀ b, b < w.heap.size → w'.heap[b]? = w.heap[b]? := fun b hb => hgr.block b hb (by simp)
  have hro : ∀ b, ro b → w'.heap[b]? = w.heap[b]? := fun b hb => hw b (hr.heap.lt b hb)
  have hnew : RelAt E G { s with heap := (s.next, .row false t n es) :: s.heap, next := s.next + 1 } a w' (upd β s.next v) ro := by
    refine hr.new s.next hnone hb (Nat.le_refl _) _ v hgr.os hgr.tape hgr.output hgr.size hw hblk rfl ?_
    exact .row t n es xs (by rw [upd_same]; exact .of_owns hown) hn fun j x hj => (hcells j x hj).keep hro fun _ h => h
  refine hK _ _ ⟨_, ro, hnew.put o.dst _ _ ?_⟩
  exact .sl _ _ (Nat.lt_succ_self _) fun z t' n' es' _ => (upd_same _ _ _).symm

theorem R_buildSlice {o : Oper} (t : TypeId) (len : Nat) (parts : Array (Nat × Operand)) (ho : o.op = .buildSlice t len parts) {e n : Nat} (hu : P.underlying t = some (.slice e)) (hsz : (P.info? e).map (·.size) = some n)
    {zs : List Value} (hz : zeroCells P e = some zs) (hzall : zs.all Value.oneCell' = true) (hzl : zs.length = n) (hlen : 0 < len * n ∧ len * n ≤ 16777216)
    {ps : List (Nat × AV)} (hps : parts.toList.map (fun p => (p.1, aval G s p.2)) = ps) (hall : ps.all (fun p => (vcells p.2).all (cellOkIn s.heap)) = true)
    {ds : List AV} (hf : afill (fun i => some (i * n, n)) ((List.replicate len (zs.map fun z => AV.rv (.v z))).flatten) ps = some ds) {rs : List RV} (hrs : rvs ds = some rs) :
    NRow P G o s e n (chunk n len rs) := by
  have hds : ds.length = len * n := by
    have : ∀ (ps : List (Nat × AV)) (cs ds : List AV), afill (fun i => some (i * n, n)) cs ps = some ds → ds.length = cs.length := by
      intro ps
      induction ps with
      | nil => intro cs ds h; simp [afill] at h; rw [h]
      | cons p r ih =>
        intro cs ds h
        obtain ⟨i, v⟩ := p
        simp only [afill] at h
        split at h
        · rename_i hc
          rw [ih _ _ h, splice_length _ _ _ (by omega)]
        · cases h
    rw [this ps _ _ hf, length_flatten_of (n := n) (fun e he => by rw [List.mem_replicate] at he; rw [he.2]; simpa using hzl)]
    simp
  have hrl : rs.length = len * n := by rw [← hds, rvs_map hrs]; simp
  refine ⟨chunk_all n len rs hrl, fun E a w β ro hr => ?_⟩
  obtain ⟨h1, h2⟩ := parts_rel hr hps hall
  obtain ⟨z, hrz, hzc, _⟩ := run_zero hz w
  have hcells : (List.replicate len (zs.map fun z => AV.rv (.v z))).flatten.length = len * n := by
    rw [length_flatten_of (n := n) (fun e he => by rw [List.mem_replicate] at he; rw [he.2]; simpa using hzl)]; simp
  have hzsz : zs.toArray.size = n := by simpa using hzl
  have hnpos : 0 < n := by
    rcases Nat.eq_zero_or_pos n with h | h
    · rw [h] at hlen; simp at hlen
    · exact h
  obtain ⟨ys, g1, g2, g3⟩ := afill_run (place' := fun i => some (i * n, n)) (fun _ _ h => h) hr.heap hf h1 h2 (xs := (Array.range (len * n)).map fun x => zs.toArray[x % zs.toArray.size]!) (by rw [hcells]; simp) (fun j x hj => by
    have hjl : j < len * n := by rw [← hcells]; exact (List.getElem?_eq_some_iff.1 hj).1
    have hm : j = (j / n) * n + j % n := by rw [Nat.mul_comm]; exact (Nat.div_add_mod j n).symm
    have hmn : j % n < n := Nat.mod_lt _ hnpos
    have hdl : j / n < len := by rw [Nat.div_lt_iff_lt_mul hnpos]; exact hjl
    rw [hm, flatten_at (n := n) (fun e he => by rw [List.mem_replicate] at he; rw [he.2]; simpa using hzl) (i := j / n) (e := zs.map fun z => AV.rv (.v z)) (by simp [hdl]) (j % n) hmn] at hj
    have := zs_rel (w := w) (ro := ro) (σ := s.heap) (β := β) (N := s.next) hzall (j % n) x hj
    have e1 : (Array.map (fun x => zs.toArray[x % zs.toArray.size]!) (Array.range (len * n))).getD j undef = zs.toArray.getD (j % n) undef := by
      have h3 : j % n < zs.length := by omega
      simp [hjl, hzl, List.getElem?_eq_getElem h3]
    rw [e1]
    exact this)
  have hys : ys.toList.length = (chunk n len rs).length * n := by rw [chunk_length]; simpa [hds] using g2
  refine ⟨.slice (some ⟨w.heap.size, 0, none⟩) len len, ys.toList, w.alloc (.cells ys e), ?_, ?_, World.grownBy_alloc w _ none, fun b hbk => ?_, fun j x hj => ?_⟩
  · have hse : (sizeOf e).run P w = .ok n w := by
      cases hi : P.info? e with
      | none => simp [hi] at hsz
      | some i => simp [hi] at hsz; simp [sizeOf, typeInfo, hi, hsz]
    have hne : ¬ len * n > 2 ^ 24 := by omega
    have hn0 : ¬ len * n = 0 := by omega
    simp only [execOp, ho, Sem.run_bind, Instr.buildSlice, run_underlying hu, Result.andThen_ok, hse, if_neg hne, if_neg hn0, hrz, Sem.run_pure, hzc]
    erw [g1]
    simp [newRow]
  · rw [chunk_length]
    exact World.ownsRow_lit w ys len (Nat.zero_le _) (by simp only [maxLen]; have := Nat.le_mul_of_pos_right len hnpos; omega) (by simpa [hds] using g2)
  · simp only [blk] at hbk
    split at hbk
    · cases hbk
    · simp at hbk; omega
  · rw [chunk_flatten n len rs hrl] at hj
    have h3 := g3 j (.rv x) (by rw [rvs_map hrs]; simp [hj])
    cases h3 with
    | rv _ _ h3 =>
      have : ys.toList.getD j undef = ys.getD j undef := by simp [List.getD, Array.getD_eq_getD_getElem?]
      rw [this]
      exact h3
end
end Go.Av
