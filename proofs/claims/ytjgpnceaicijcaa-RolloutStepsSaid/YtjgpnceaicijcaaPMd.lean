/- The AV calculus, part D: rules for operations that make or write memory: boxes, stores. Conditions: none. -/
import Derived.Test.YtjgpnceaicijcaaPMc
namespace Go.Av
open Go

/-- The cells of what a slot holds. -/
def vcells : AV → List AV
  | .agg cs => cs
  | x => [x]

section
variable {w : World} {ro : Nat → Prop} {σ : Heap} {β : Nat → Value} {N : Nat}

/-- What a slot holds, with the kind that a cell can have: a reference to a listed block. -/
def cellOkIn (σ : Heap) : AV → Bool
  | .rv _ | .fn _ _ _ => true
  | .ptr id _ => match hget σ id with
    | some (.box _ _) => true
    | _ => false
  | .sl id => match hget σ id with
    | some (.row _ _ _ _) => true
    | _ => false
  | .eptr id _ _ => match hget σ id with
    | some (.row _ _ _ _) => true
    | _ => false
  | _ => false

theorem cellOkIn_one (hh : HRel w ro σ β N) {x : AV} {c : Value} (hx : cellOkIn σ x = true) (h : ARel w ro σ β N x c) : c.oneCell' = true := by
  cases h with
  | rv x c h => exact h.one
  | agg => simp [cellOkIn] at hx
  | tuple => simp [cellOkIn] at hx
  | ptr id off c hl hp =>
    simp only [cellOkIn] at hx
    split at hx
    · rename_i t cs hg
      obtain ⟨b, _, rfl⟩ := hp t cs hg
      rfl
    · cases hx
  | eptr id i off c hl hp =>
    simp only [cellOkIn] at hx
    split at hx
    · rename_i z t n es hg
      obtain ⟨b, l, cp, _, rfl⟩ := hp z t n es hg
      rfl
    · cases hx
  | sl id c hl hp =>
    simp only [cellOkIn] at hx
    split at hx
    · rename_i z t n es hg
      rw [hp z t n es hg]
      have := hh.objs id _ hg
      cases this with
      | row _ _ _ xs h1 =>
        rcases h1.2 with ⟨⟨_, hv⟩, _⟩ | ⟨g, cap, cur, hv, _⟩ <;> rw [hv] <;> rfl
      | fro _ _ _ h1 => exact h1.one
    · cases hx
  | fn => rfl
  | ref => simp [cellOkIn] at hx
  | top => simp [cellOkIn] at hx

/-- The cells of a value fit the cells of what the slot holds. -/
theorem ARel.vcells {x : AV} {c : Value} (h : ARel w ro σ β N x c) (hall : (vcells x).all (cellOkIn σ) = true) (hh : HRel w ro σ β N) :
    c.cells.size = (vcells x).length ∧ (∀ j y, (Go.Av.vcells x)[j]? = some y → ARel w ro σ β N y (c.cells.getD j undef)) ∧ ∀ u ∈ c.cells.toList, u.oneCell' = true := by
  cases h with
  | agg cs c hs hc =>
    refine ⟨hs, hc, fun u hu => ?_⟩
    obtain ⟨j, hj, rfl⟩ := List.mem_iff_getElem.1 hu
    have hjs : j < cs.length := by simpa [Value.cells, hs] using hj
    have h1 := hc j cs[j] (List.getElem?_eq_getElem hjs)
    have h2 : cellOkIn σ cs[j] = true := by
      simp only [Go.Av.vcells, List.all_eq_true] at hall
      exact hall _ (List.getElem_mem hjs)
    have h3 := cellOkIn_one hh h2 h1
    have hjc : j < c.size := by omega
    simpa [Value.cells, hjc] using h3
  | rv x c hx =>
    have h1 : c.cells = #[c] := by have := hx.one; cases c <;> simp_all [Value.cells, Value.oneCell']
    refine ⟨by simp [h1, Go.Av.vcells], fun j y hj => ?_, fun u hu => ?_⟩
    · cases j with
      | zero => simp [Go.Av.vcells] at hj; subst hj; simpa [h1] using ARel.rv x c hx
      | succ j => simp [Go.Av.vcells] at hj
    · simp [h1] at hu; subst hu; exact hx.one
  | tuple cs c hs hc => simp [Go.Av.vcells, cellOkIn] at hall
  | top c => simp [Go.Av.vcells, cellOkIn] at hall
  | ref id c => simp [Go.Av.vcells, cellOkIn] at hall
  | ptr id off c hl hp =>
    have hx : cellOkIn σ (.ptr id off) = true := by simpa [Go.Av.vcells] using hall
    have hone := cellOkIn_one hh hx (ARel.ptr (w := w) (ro := ro) id off c hl hp)
    have h1 : c.cells = #[c] := by cases c <;> simp_all [Value.cells, Value.oneCell']
    refine ⟨by simp [h1, Go.Av.vcells], fun j y hj => ?_, fun u hu => ?_⟩
    · cases j with
      | zero => simp [Go.Av.vcells] at hj; subst hj; simpa [h1] using ARel.ptr id off c hl hp
      | succ j => simp [Go.Av.vcells] at hj
    · simp [h1] at hu; subst hu; exact hone
  | eptr id i off c hl hp =>
    have hx : cellOkIn σ (.eptr id i off) = true := by simpa [Go.Av.vcells] using hall
    have hone := cellOkIn_one hh hx (ARel.eptr (w := w) (ro := ro) id i off c hl hp)
    have h1 : c.cells = #[c] := by cases c <;> simp_all [Value.cells, Value.oneCell']
    refine ⟨by simp [h1, Go.Av.vcells], fun j y hj => ?_, fun u hu => ?_⟩
    · cases j with
      | zero => simp [Go.Av.vcells] at hj; subst hj; simpa [h1] using ARel.eptr id i off c hl hp
      | succ j => simp [Go.Av.vcells] at hj
    · simp [h1] at hu; subst hu; exact hone
  | sl id c hl hp =>
    have hx : cellOkIn σ (.sl id) = true := by simpa [Go.Av.vcells] using hall
    have hone := cellOkIn_one hh hx (ARel.sl (w := w) (ro := ro) id c hl hp)
    have h1 : c.cells = #[c] := by cases c <;> simp_all [Value.cells, Value.oneCell']
    refine ⟨by simp [h1, Go.Av.vcells], fun j y hj => ?_, fun u hu => ?_⟩
    · cases j with
      | zero => simp [Go.Av.vcells] at hj; subst hj; simpa [h1] using ARel.sl id c hl hp
      | succ j => simp [Go.Av.vcells] at hj
    · simp [h1] at hu; subst hu; exact hone
  | fn f p q c d h1 h2 h3 h4 =>
    refine ⟨by simp [Value.cells, Go.Av.vcells], fun j y hj => ?_, fun u hu => ?_⟩
    · cases j with
      | zero => simp [Go.Av.vcells] at hj; subst hj; simpa [Value.cells] using ARel.fn f p q c d h1 h2 h3 h4
      | succ j => simp [Go.Av.vcells] at hj
    · simp [Value.cells] at hu; subst hu; rfl
end

section
variable {P : Program} {G : Glob} {o : Oper} {s : St}

theorem run_newVar (t : TypeId) (c : Value) (w : World) : (newVar t c).run P w = .ok ⟨w.heap.size, 0, none⟩ (w.alloc (.cells c.cells t)) := by
  simp [newVar, newRow]

/-- A new box and its pointer, put into the slot. -/
theorem OpStep.newBox {t : TypeId} {cs : List AV} (h : ∀ E a w β ro, RelAt E G s a w β ro → ∃ arr : Array Value, (execOp a.eval o).run P w = .ok (.value (.pointer (some ⟨w.heap.size, 0, none⟩))) (w.alloc (.cells arr t)) ∧
      arr.size = cs.length ∧ ∀ j x, cs[j]? = some x → ARel w ro s.heap β s.next x (arr.getD j undef)) (hb : s.base ≤ s.next) :
    OpStep P G o s ({ s with heap := (s.next, .box t cs) :: s.heap, next := s.next + 1 }.put o.dst (.ptr s.next 0)) := by
  intro E a w ⟨β, ro, hr⟩ K Q hK
  obtain ⟨arr, hrun, hsz, hcells⟩ := h E a w β ro hr
  unfold Oper.wp
  rw [hrun]
  have hnone : hget s.heap s.next = none := by
    cases hg : hget s.heap s.next with
    | none => rfl
    | some p => have := hr.trans.new _ _ hg; omega
  have hnew : RelAt E G { s with heap := (s.next, .box t cs) :: s.heap, next := s.next + 1 } a (w.alloc (.cells arr t)) (upd β s.next (.pointer (some ⟨w.heap.size, 0, none⟩))) ro := by
    refine hr.new s.next hnone hb (Nat.le_refl _) _ _ rfl rfl rfl (by simp) (fun b hb => Go.RowKit.Below.heap_alloc w _ b hb) (fun b hb => by simp [blk] at hb; omega) rfl ?_
    refine .box t cs w.heap.size arr (upd_same _ _ _) (heap_alloc_new w _) hsz fun j x hj => ?_
    have hx := hcells j x hj
    have hro : ∀ b, ro b → (w.alloc (.cells arr t)).heap[b]? = w.heap[b]? := fun b hb => Go.RowKit.Below.heap_alloc w _ b (hr.heap.lt b hb)
    clear hj hcells
    generalize arr.getD j undef = c at hx
    induction hx with
    | rv x c hx => exact .rv x c (hx.keep hro fun _ h => h)
    | agg cs c hs _ ih => exact .agg cs c hs ih
    | tuple cs c hs _ ih => exact .tuple cs c hs ih
    | ptr k off c hl hp =>
      have hk : k ≠ s.next := by omega
      exact .ptr k off c (by omega) fun t cs hgk => by rw [upd_ne _ _ hk]; simp only [hget, if_neg (Ne.symm hk)] at hgk; exact hp t cs hgk
    | eptr k i off c hl hp =>
      have hk : k ≠ s.next := by omega
      exact .eptr k i off c (by omega) fun z t n es hgk => by rw [upd_ne _ _ hk]; simp only [hget, if_neg (Ne.symm hk)] at hgk; exact hp z t n es hgk
    | sl k c hl hp =>
      have hk : k ≠ s.next := by omega
      exact .sl k c (by omega) fun z t n es hgk => by rw [upd_ne _ _ hk]; simp only [hget, if_neg (Ne.symm hk)] at hgk; exact hp z t n es hgk
    | fn f p q c d h1 h2 _ _ ih1 ih2 => exact .fn f p q c d h1 h2 ih1 ih2
    | ref k c hl hp =>
      have hk : k ≠ s.next := by omega
      exact .ref k c (by omega) fun Φ hgk => by rw [upd_ne _ _ hk]; simp only [hget, if_neg (Ne.symm hk)] at hgk; exact hp Φ hgk
    | top c => exact .top c
  refine hK _ _ ⟨_, ro, hnew.put o.dst _ _ ?_⟩
  refine .ptr _ _ _ (Nat.lt_succ_self _) fun t' cs' hg => ⟨w.heap.size, upd_same _ _ _, rfl⟩

theorem R_box (t : TypeId) (x : Operand) (ho : o.op = .box t x) (hb : s.base ≤ s.next) (hall : (vcells (aval G s x)).all (cellOkIn s.heap) = true) :
    OpStep P G o s ({ s with heap := (s.next, .box t (vcells (aval G s x))) :: s.heap, next := s.next + 1 }.put o.dst (.ptr s.next 0)) :=
  .newBox (fun _ a w β ro hr => by
    obtain ⟨h1, h2, _⟩ := (hr.eval x).vcells hall hr.heap
    exact ⟨(a.eval x).cells, by simp [execOp, ho, Instr.box, run_newVar], h1, h2⟩) hb

/-- The zero value's cells of a type. -/
def zeroCells (P : Program) (t : TypeId) : Option (List Value) :=
  match P.info? t with
  | some i => match i.zero with
    | some z => some z.cells.toList
    | none => none
  | none => none

theorem run_zero {t : TypeId} {zs : List Value} (h : zeroCells P t = some zs) (w : World) : ∃ z : Value, (zeroValue t).run P w = .ok z w ∧ z.cells = zs.toArray ∧ ∃ i, P.info? t = some i ∧ i.zero = some z := by
  unfold zeroCells at h
  cases hi : P.info? t with
  | none => simp [hi] at h
  | some i =>
    cases hz : i.zero with
    | none => simp [hi, hz] at h
    | some z =>
      simp [hi, hz] at h
      exact ⟨z, by simp [zeroValue, typeInfo, hi, hz], by rw [← h], i, rfl, hz⟩

theorem R_alloc (t : TypeId) (ho : o.op = .alloc t) (hb : s.base ≤ s.next) {zs : List Value} (hz : zeroCells P t = some zs) (hall : zs.all Value.oneCell' = true) :
    OpStep P G o s ({ s with heap := (s.next, .box t (zs.map fun z => .rv (.v z))) :: s.heap, next := s.next + 1 }.put o.dst (.ptr s.next 0)) :=
  .newBox (fun _ a w β ro hr => by
    obtain ⟨z, hrun, hzc, _⟩ := run_zero hz w
    refine ⟨z.cells, by simp [execOp, ho, Instr.alloc, hrun, run_newVar], by simp [hzc], fun j x hj => ?_⟩
    rw [List.getElem?_map] at hj
    cases hzj : zs[j]? with
    | none => simp [hzj] at hj
    | some y =>
      simp [hzj] at hj
      subst hj
      have : y.oneCell' = true := by
        rw [List.all_eq_true] at hall
        exact hall y (List.mem_of_getElem? hzj)
      rw [hzc]
      simpa [hzj] using ARel.rv (w := w) (ro := ro) (σ := s.heap) (β := β) (N := s.next) _ _ (.v y this)) hb
end
end Go.Av
