/- The AV calculus, part O: rows that are immutable from the start, results frozen, regions that draw their order. Conditions: none. -/
import Derived.Test.YtjgpnceaicijcaaPMn
import Derived.Orders
namespace Go.Av
open Go

section
variable {P : Program} {G : Glob} {o : Oper} {s : St} {E : Entry} {a : Act} {w w' : World} {β : Nat → Value} {ro ro' : Nat → Prop}

/-- The world has grown: what was there is as it was, some new blocks are immutable. -/
theorem RelAt.grow (h : RelAt E G s a w β ro) (hos : w'.os = w.os) (htape : w'.tape = w.tape) (hout : w'.output = w.output) (hsz : w.heap.size ≤ w'.heap.size) (hw : ∀ b, b < w.heap.size → w'.heap[b]? = w.heap[b]?)
    (hro : ∀ b, ro b → ro' b) (hnew : ∀ b, ro' b → ro b ∨ (w.heap.size ≤ b ∧ b < w'.heap.size)) : RelAt E G s a w' β ro' := by
  have hk : ∀ b, ro b → w'.heap[b]? = w.heap[b]? := fun b hb => hw b (h.heap.lt b hb)
  refine ⟨h.defers, h.size, fun i x hx => (h.slot i x hx).keep hk hro (Nat.le_refl _) (fun _ t cs hg => ⟨rfl, t, cs, hg⟩) (fun _ z t _ es hg => ⟨rfl, z, t, es, hg⟩) (fun _ Φ hg => ⟨rfl, Φ, hg⟩),
    ⟨fun id ob hg => (h.heap.objs id ob hg).keep hk hro (Nat.le_refl _) rfl (fun hl b hb => hw b ((h.heap.objs id ob hg).blkLt hl hb)) (fun _ t cs hg => ⟨rfl, t, cs, hg⟩) (fun _ z t _ es hg => ⟨rfl, z, t, es, hg⟩) (fun _ Φ hg => ⟨rfl, Φ, hg⟩), h.heap.inj, fun b hb ho => ?_, fun b hb => ?_⟩,
    h.glob.keep hk hro, ?_, h.base⟩
  · rcases hnew b hb with h1 | ⟨h1, _⟩
    · exact h.heap.disj b h1 ho
    · obtain ⟨id, ob, hg, hl, hb'⟩ := ho
      have := (h.heap.objs id ob hg).blkLt hl hb'
      omega
  · rcases hnew b hb with h1 | ⟨_, h1⟩
    · exact Nat.lt_of_lt_of_le (h.heap.lt b h1) hsz
    · exact h1
  · have t := h.trans
    refine ⟨hos.trans t.os, htape.trans t.tape, hout.trans t.output, Nat.le_trans t.size hsz, fun b hb hn => (hw b (Nat.lt_of_lt_of_le hb t.size)).trans (t.frame b hb hn), fun b hb => ?_, fun b hb => hro b (t.roKeep b hb), t.ownSub, t.old, t.new, t.le⟩
    rcases hnew b hb with h1 | ⟨h1, _⟩
    · exact t.roSub b h1
    · exact .inr (.inr (Nat.le_trans t.size h1))

/-- A new row that nobody will write: an immutable slice. -/
theorem OpStep.newRO {t : TypeId} {n : Nat} {es : List (List RV)} (hh : NRow P G o s t n es) : OpStep P G o s (s.put o.dst (.rv (.sl n es))) := by
  obtain ⟨hn, h⟩ := hh
  intro E a w ⟨β, ro, hr⟩ K Q hK
  obtain ⟨v, xs, w', hrun, hown, hgr, hblk, hcells⟩ := h E a w β ro hr
  unfold Oper.wp
  rw [hrun]
  have hw : ∀ b, b < w.heap.size → w'.heap[b]? = w.heap[b]? := fun b hb => hgr.block b hb (by simp)
  have hrow : RowIs w' t n v es.length xs := .of_owns hown
  have hg := hr.grow (ro' := fun b => ro b ∨ blk v = some b) hgr.os hgr.tape hgr.output hgr.size hw (fun _ h => .inl h) (fun b hb => by
    rcases hb with h | h
    · exact .inl h
    · exact .inr ⟨hblk b h, (hrow.blkLt h).1⟩)
  exact hK _ _ ⟨β, _, hg.put o.dst _ _ (.rv _ _ (hrow.asRV hn (fun j x hj => (hcells j x hj).keep (fun b hb => hw b (hr.heap.lt b hb)) fun _ h => .inl h) fun b hb => .inr hb))⟩

mutual
theorem pure_shift (d : Nat) : ∀ (x : AV), pureA x = true → shiftA d x = x ∧ belowA 0 x = true
  | .rv _, _ => ⟨rfl, rfl⟩
  | .agg cs, h => by
    have := pure_shiftL d cs (by simpa [pureA] using h)
    exact ⟨by simp [shiftA, this.1], by simpa [belowA] using this.2⟩
  | .tuple cs, h => by
    have := pure_shiftL d cs (by simpa [pureA] using h)
    exact ⟨by simp [shiftA, this.1], by simpa [belowA] using this.2⟩
  | .fn f p q, h => by
    simp only [pureA, Bool.and_eq_true] at h
    have h1 := pure_shiftL d p h.1
    have h2 := pure_shiftL d q h.2
    exact ⟨by simp [shiftA, h1.1, h2.1], by simp [belowA, h1.2, h2.2]⟩
  | .top, _ => ⟨rfl, rfl⟩
  | .ptr _ _, h => by simp [pureA] at h
  | .eptr _ _ _, h => by simp [pureA] at h
  | .sl _, h => by simp [pureA] at h
  | .ref _, h => by simp [pureA] at h
theorem pure_shiftL (d : Nat) : ∀ (l : List AV), pureL l = true → shiftL d l = l ∧ belowL 0 l = true
  | [], _ => ⟨rfl, rfl⟩
  | x :: r, h => by
    simp only [pureL, Bool.and_eq_true] at h
    have h1 := pure_shift d x h.1
    have h2 := pure_shiftL d r h.2
    exact ⟨by simp [shiftL, h1.1, h2.1], by simp [belowL, h1.2, h2.2]⟩
end

/-- A call by contract whose result holds nothing of the callee's own. -/
theorem OpStep.callP {x : Operand} {xs : Array Operand} {ts : Array TypeId} (ho : o.op = .call { callee := .value x, args := xs, argTypes := ts }) {f : FuncId} (hx : aval G s x = .fn (.func f) [] [])
    (hcb : callable P f = true) {args : List AV} (hargs : xs.toList.map (fun y => viewA s.heap (aval G s y)) = args) (hpure : pureL args = true) {r : AV} (hc : ACalls P G f args [] 0 fun r1 τ => r1 = r ∧ τ = []) (hr : pureA r = true) (hb : s.base ≤ s.next) :
    OpStep P G o s (s.put o.dst r) := by
  obtain ⟨hsh, hbel⟩ := pure_shift s.next r hr
  have := OpStep.call (K := 0) ho hx hcb hargs hpure hc (fun _ _ h => h) hbel rfl hb
  rw [hsh] at this
  exact this

/-- Only the slots of a list are kept, the others say nothing. -/
def maskF (ks : List Nat) (l : List AV) : List AV := l.mapIdx fun i x => if ks.contains i then x else .top

theorem maskF_at (ks : List Nat) (l : List AV) (i : Nat) : (maskF ks l)[i]? = (l[i]?).map fun x => if ks.contains i then x else .top := by
  simp [maskF]

theorem RelAt.mask (h : RelAt E G s a w β ro) (ks : List Nat) : RelAt E G { s with slots := maskF ks s.slots } a w β ro := by
  refine ⟨h.defers, by simp [maskF, h.size], fun i x hx => ?_, h.heap, h.glob, h.trans, h.base⟩
  simp only [maskF_at] at hx
  cases hi : s.slots[i]? with
  | none => simp [hi] at hx
  | some y =>
    simp only [hi, Option.map_some, Option.some.injEq] at hx
    split at hx
    · subst hx; exact h.slot i y hi
    · subst hx; exact .top _

/-- The operation leads from every state that looks like T where it looks, to that state with v put. -/
def DStep (P : Program) (G : Glob) (ops : Array Oper) (s0 : St) (T : List AV) (o : Oper) (v : AV) : Prop :=
  ∀ s : St, s.heap = s0.heap → s.next = s0.next → s.base = s0.base → s.slots.length = T.length → (∀ t ∈ o.looksAt ops, s.slots[t]? = T[t]?) →
    (gwant ops s o = some true ∧ OpStep P G o s (s.put o.dst v)) ∨ (gwant ops s o = some false ∧ v = .tuple [])

theorem mask_eq {ks : List Nat} {l l' : List AV} (hlen : l.length = l'.length) (h : ∀ t ∈ ks, l[t]? = l'[t]?) : maskF ks l = maskF ks l' := by
  apply List.ext_getElem?
  intro i
  rw [maskF_at, maskF_at]
  by_cases hi : i ∈ ks
  · rw [h i hi]
  · have hc : ks.contains i = false := by simpa using hi
    simp only [hc]
    by_cases hl : i < l.length
    · rw [List.getElem?_eq_getElem hl, List.getElem?_eq_getElem (by omega)]; rfl
    · rw [List.getElem?_eq_none (by omega), List.getElem?_eq_none (by omega)]

theorem gwant_mask {ops : Array Oper} {ks : List Nat} (hk : ∀ j b, o.guard = some (j, b) → ∀ d, gslot ops j = some d → d ∈ ks) : gwant ops { s with slots := maskF ks s.slots } o = gwant ops s o := by
  unfold gwant
  cases hg : o.guard with
  | none => rfl
  | some jb =>
    obtain ⟨j, b⟩ := jb
    simp only
    cases hd : gslot ops j with
    | none => rfl
    | some d =>
      have hm : ks.contains d = true := by simpa using hk j b hg d hd
      simp only [maskF_at]
      cases hs : s.slots[d]? with
      | none => simp
      | some x => simp only [Option.map_some, hm, if_true]

theorem looks_guard {ops : Array Oper} (j : Nat) (b : Bool) (hg : o.guard = some (j, b)) (d : Nat) (hd : gslot ops j = some d) : d ∈ o.looksAt ops := by
  unfold gslot at hd
  simp [Oper.looksAt, hg, hd]

/-- A value operation, computed where it looks. -/
theorem DStep.val {ops : Array Oper} {s0 : St} {T : List AV} {v : AV} (hg : gwant ops ⟨maskF (o.looksAt ops) T, s0.heap, s0.next, s0.base⟩ o = some true) (hv : vstep P G o ⟨maskF (o.looksAt ops) T, s0.heap, s0.next, s0.base⟩ = some v) : DStep P G ops s0 T o v := by
  intro s h1 h2 h3 hlen hag
  have hm := mask_eq hlen hag
  have hst : ({ s with slots := maskF (o.looksAt ops) s.slots } : St) = ⟨maskF (o.looksAt ops) T, s0.heap, s0.next, s0.base⟩ := by rw [hm, ← h1, ← h2, ← h3]
  refine .inl ⟨by rw [← gwant_mask (ks := o.looksAt ops) looks_guard, hst]; exact hg, VStep.step fun E a w β ro hr => ?_⟩
  have hr' := hr.mask (o.looksAt ops)
  rw [hst] at hr'
  have := vstep_sound hv E a w β ro hr'
  simpa only [h1, h2] using this

theorem DStep.skip {ops : Array Oper} {s0 : St} {T : List AV} (hg : gwant ops ⟨maskF (o.looksAt ops) T, s0.heap, s0.next, s0.base⟩ o = some false) : DStep P G ops s0 T o (.tuple []) := by
  intro s h1 h2 h3 hlen hag
  have hm := mask_eq hlen hag
  have hst : ({ s with slots := maskF (o.looksAt ops) s.slots } : St) = ⟨maskF (o.looksAt ops) T, s0.heap, s0.next, s0.base⟩ := by rw [hm, ← h1, ← h2, ← h3]
  exact .inr ⟨by rw [← gwant_mask (ks := o.looksAt ops) looks_guard, hst]; exact hg, rfl⟩

theorem aval_mask {ks : List Nat} {y : Operand} (hy : ∀ t, y = .tmp t → t ∈ ks) : aval G { s with slots := maskF ks s.slots } y = aval G s y := by
  cases y with
  | tmp t =>
    have hm : ks.contains t = true := by simpa using hy t rfl
    simp only [aval, List.getD, maskF_at]
    cases hs : s.slots[t]? with
    | none => rfl
    | some x => simp only [Option.map_some, hm, if_true]
  | _ => rfl

/-- Any rule that asks only for operands: at every state that looks alike. -/
theorem DStep.of {ops : Array Oper} {s0 : St} {T : List AV} {v : AV} (hg : gwant ops ⟨maskF (o.looksAt ops) T, s0.heap, s0.next, s0.base⟩ o = some true)
    (h : ∀ s : St, s.heap = s0.heap → s.next = s0.next → s.base = s0.base → (∀ y : Operand, (∀ t, y = .tmp t → t ∈ o.looksAt ops) → aval G s y = aval G ⟨maskF (o.looksAt ops) T, s0.heap, s0.next, s0.base⟩ y) → OpStep P G o s (s.put o.dst v)) : DStep P G ops s0 T o v := by
  intro s h1 h2 h3 hlen hag
  have hm := mask_eq hlen hag
  have hst : ({ s with slots := maskF (o.looksAt ops) s.slots } : St) = ⟨maskF (o.looksAt ops) T, s0.heap, s0.next, s0.base⟩ := by rw [hm, ← h1, ← h2, ← h3]
  refine .inl ⟨by rw [← gwant_mask (ks := o.looksAt ops) looks_guard, hst]; exact hg, h s h1 h2 h3 fun y hy => ?_⟩
  rw [← hst]
  exact (aval_mask hy).symm
end
end Go.Av
