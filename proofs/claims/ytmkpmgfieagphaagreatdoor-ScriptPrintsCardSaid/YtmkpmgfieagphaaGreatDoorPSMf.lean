/- The AV calculus, part A: values as trees, the relation between a symbolic state and a world, and how it is kept. Conditions: none; nothing here speaks of a particular program. -/
import Derived.Test.YtmkpmgfieagphaaGreatDoorPST0
import Derived.Laws.StructEq
import Derived.ChangeKeysEq
namespace Go.Av
open Go

theorem addB (a : Addr) (n : Nat) : (a.add n).block = a.block := by unfold Addr.add; split <;> rfl
theorem addAdd (a : Addr) (i j : Nat) : (a.add i).add j = a.add (i + j) := by
 unfold Addr.add
 by_cases hi : i = 0 <;> by_cases hj : j = 0 <;> simp [hi, hj, Nat.add_assoc]
theorem addLit (b o n : Nat) : (⟨b, o, none⟩ : Addr).add n = ⟨b, o + n, none⟩ := by
 unfold Addr.add; split
 ·rename_i h; subst h; rfl
 ·rfl

inductive AV where
 | rv (x : RV)
 | agg (cs : List AV)
 | tuple (cs : List AV)
 | ptr (id off : Nat)
 | eptr (id i off : Nat)
 | sl (id : Nat)
 | fn (f : Fn) (first captured : List AV)
 | ref (id : Nat)
 | bsl (id n : Nat)
 | top

def EntIs (agg : Bool) (n : Nat) (v : Value) (p : Nat → Value) : Prop :=
 match agg with
 | true => ∃ c : Array Value, v = .agg c ∧ c.size = n ∧ ∀ i, i < n → c.getD i undef = p i
 | false => n = 1 ∧ v = p 0
inductive RRel (w : World) (ro : Nat → Prop) : RV → Value → Prop where
  | v (x : Value) : x.oneCell' = true → RRel w ro (.v x) x
  | ptr (cs : List RV) (a : Addr) (c : Nat → Value) : (∀ j x, cs[j]? = some x → ro a.block ∧ w.cell? (a.add j) = some (c j)) →
      (∀ j x, cs[j]? = some x → RRel w ro x (c j)) → RRel w ro (.ptr cs) (.pointer (some a))
  | sl (n : Nat) (es : List (List RV)) (b : Option Addr) (cap : Nat) (c : Nat → Value) : es.length ≤ cap → cap ≤ maxLen → (∀ e ∈ es, e.length = n) →
      (0 < es.length → ∃ a, b = some a ∧ ∀ j, j < es.length * n → ro a.block ∧ w.cell? (a.add j) = some (c j)) →
      (∀ j x, es.flatten[j]? = some x → RRel w ro x (c j)) → RRel w ro (.sl n es) (.slice b es.length cap)
  | mp (agg : Bool) (ks : List Value) (vs : List (List RV)) (r : Nat) (es : Array MapEntry) (clock : Nat) (p : Nat → Nat → Value) : ro r → w.heap[r]? = some (.map es clock) → es.size = ks.length → vs.length = ks.length → ks.Nodup →
      (∀ j k cs, ks[j]? = some k → vs[j]? = some cs → ∃ e : MapEntry, es[j]? = some e ∧ e.key = k ∧ EntIs agg cs.length e.val (p j)) →
      (∀ j cs i x, vs[j]? = some cs → cs[i]? = some x → RRel w ro x (p j i)) → RRel w ro (.mp agg ks vs) (.map (some r))
  | li (i : TC) (l : List (tbl i)) (c : Value) : RRel w ro (.sl (nT i) (l.map (cT i))) c → RRel w ro (.li i l) c

theorem RRel.one {w : World} {ro : Nat → Prop} {x : RV} {c : Value} (h : RRel w ro x c) : c.oneCell' = true := by
 induction h with
 | v x hx => exact hx
 | ptr => rfl
 | sl => rfl
 | mp => rfl
 | li i l c h ih => exact ih

theorem RRel.keep {w w' : World} {ro ro' : Nat → Prop} {x : RV} {c : Value} (h : RRel w ro x c)
    (hw : ∀ b, ro b → w'.heap[b]? = w.heap[b]?) (hro : ∀ b, ro b → ro' b) : RRel w' ro' x c := by
  induction h with
  | v x hx => exact .v x hx
  | ptr cs a c h1 _ ih =>
    exact .ptr cs a c (fun j x hj => ⟨hro _ (h1 j x hj).1, by
      rw [World.cell?_of_block (w := w) (by rw [addB]; exact hw _ (h1 j x hj).1)]; exact (h1 j x hj).2⟩) ih
  | sl n es b cap c h1 h2 h3 h4 _ ih =>
    refine .sl n es b cap c h1 h2 h3 (fun hp => ?_) ih
    obtain ⟨a, hb, hc⟩ := h4 hp
    exact ⟨a, hb, fun j hj => ⟨hro _ (hc j hj).1, by
      rw [World.cell?_of_block (w := w) (by rw [addB]; exact hw _ (hc j hj).1)]; exact (hc j hj).2⟩⟩
  | mp agg ks vs r es clock p h1 h2 h3 h4 h5 h6 _ ih => exact .mp agg ks vs r es clock p (hro _ h1) ((hw _ h1).trans h2) h3 h4 h5 h6 ih
  | li i l c _ ih => exact .li i l c ih

def blk : Value → Option Nat
 | .pointer (some a) => some a.block
 | .slice (some a) _ cap => if cap = 0 then none else some a.block
 | .map (some r) => some r
 | _ => none

structure Oth where
 holds : (RV → Value → Prop) → Value → Obj → Prop
 mono : ∀ (R R' : RV → Value → Prop) v o, (∀ x c, R x c → R' x c) → holds R v o → holds R' v o
 view : Option RV
 viewOk : ∀ rv, view = some rv → ∀ (w : World) (ro ro' : Nat → Prop) (v : Value) (o : Obj) (b : Nat), holds (RRel w ro) v o → blk v = some b → w.heap[b]? = some o → (∀ x, ro x → ro' x) → ro' b → RRel w ro' rv v

inductive AObj where
 | box (t : TypeId) (cs : List AV)
 | row (fz : Bool) (t : TypeId) (n : Nat) (es : List (List RV))
 | oth (Φ : Oth)

def AObj.live : AObj → Bool
 | .box _ _ => true
 | .row fz _ _ _ => !fz
 | .oth _ => true

abbrev Heap := List (Nat × AObj)

def hget : Heap → Nat → Option AObj
 | [], _ => none
 | (k, o) :: r, id => if k = id then some o else hget r id

def hset : Heap → Nat → AObj → Heap
 | [], id, o => [(id, o)]
 | (k, x) :: r, id, o => if k = id then (k, o) :: r else (k, x) :: hset r id o

def hdel : Heap → Nat → Heap
 | [], _ => []
 | (k, x) :: r, id => if k = id then hdel r id else (k, x) :: hdel r id

theorem hget_hset (h : Heap) (id : Nat) (o : AObj) (k : Nat) : hget (hset h id o) k = if id = k then some o else hget h k := by
 induction h with
 | nil => simp [hset, hget]
 | cons p r ih =>
  obtain ⟨j, x⟩ := p
  by_cases hj : j = id
  ·subst hj
   by_cases hk : j = k <;> simp [hset, hget, hk]
  ·by_cases hk : j = k
   ·subst hk
    simp [hset, hget, hj, Ne.symm hj]
   ·simp [hset, hget, hj, hk, ih]

theorem hget_hdel (h : Heap) (id k : Nat) : hget (hdel h id) k = if id = k then none else hget h k := by
 induction h with
 | nil => simp [hdel, hget]
 | cons p r ih =>
  obtain ⟨j, x⟩ := p
  by_cases hj : j = id
  ·subst hj
   by_cases hk : j = k
   ·subst hk; simp [hdel, ih]
   ·simp [hdel, hget, hk, ih]
  ·by_cases hk : j = k
   ·subst hk
    simp [hdel, hget, hj, Ne.symm hj]
   ·simp [hdel, hget, hj, hk, ih]

def RowIs (w : World) (t : TypeId) (n : Nat) (v : Value) (len : Nat) (xs : List Value) : Prop :=
  xs.length = len * n ∧ (((∃ b, v = .slice b 0 0 ∧ ∀ a, b = some a → a.block < w.heap.size) ∧ len = 0) ∨
   ∃ g cap cur, v = .slice (some ⟨g, 0, none⟩) len cap ∧ 0 < cap ∧ w.heap[g]? = some (.cells cur t (0, 0)) ∧ len ≤ cap ∧ cap ≤ maxLen ∧ cur.size = cap * n ∧ cur.toList.take (len * n) = xs)

inductive ARel (w : World) (ro : Nat → Prop) (σ : Heap) (β : Nat → Value) (N : Nat) : AV → Value → Prop where
  | rv (x : RV) (c : Value) : RRel w ro x c → ARel w ro σ β N (.rv x) c
  | agg (cs : List AV) (c : Array Value) : c.size = cs.length → (∀ j x, cs[j]? = some x → ARel w ro σ β N x (c.getD j undef)) → ARel w ro σ β N (.agg cs) (.agg c)
  | tuple (cs : List AV) (c : Array Value) : c.size = cs.length → (∀ j x, cs[j]? = some x → ARel w ro σ β N x (c.getD j undef)) → ARel w ro σ β N (.tuple cs) (.tuple c)
  | ptr (id off : Nat) (c : Value) : id < N → (∀ t cs, hget σ id = some (.box t cs) → ∃ b, β id = .pointer (some ⟨b, 0, none⟩) ∧ c = .pointer (some ⟨b, off, none⟩)) → ARel w ro σ β N (.ptr id off) c
  | bsl (id n : Nat) (c : Value) : id < N → (∀ t cs, hget σ id = some (.box t cs) → ∃ b, β id = .pointer (some ⟨b, 0, none⟩) ∧ c = .slice (some ⟨b, 0, none⟩) n n) → ARel w ro σ β N (.bsl id n) c
  | eptr (id i off : Nat) (c : Value) : id < N → (∀ z t n es, hget σ id = some (.row z t n es) → ∃ b l cp, β id = .slice (some ⟨b, 0, none⟩) l cp ∧ c = .pointer (some ⟨b, i * n + off, none⟩)) → ARel w ro σ β N (.eptr id i off) c
  | sl (id : Nat) (c : Value) : id < N → (∀ z t n es, hget σ id = some (.row z t n es) → c = β id) → ARel w ro σ β N (.sl id) c
  | fn (f : Fn) (p q : List AV) (c d : Array Value) : c.size = p.length → d.size = q.length → (∀ j x, p[j]? = some x → ARel w ro σ β N x (c.getD j undef)) →
      (∀ j x, q[j]? = some x → ARel w ro σ β N x (d.getD j undef)) → ARel w ro σ β N (.fn f p q) (.func f c d)
  | ref (id : Nat) (c : Value) : id < N → (∀ Φ, hget σ id = some (.oth Φ) → c = β id) → ARel w ro σ β N (.ref id) c
  | top (c : Value) : ARel w ro σ β N .top c

inductive ORel (w : World) (ro : Nat → Prop) (σ : Heap) (β : Nat → Value) (N : Nat) (id : Nat) : AObj → Prop where
  | box (t : TypeId) (cs : List AV) (b : Nat) (arr : Array Value) : β id = .pointer (some ⟨b, 0, none⟩) → w.heap[b]? = some (.cells arr t (0, 0)) → arr.size = cs.length →
      (∀ j x, cs[j]? = some x → ARel w ro σ β N x (arr.getD j undef)) → ORel w ro σ β N id (.box t cs)
  | row (t : TypeId) (n : Nat) (es : List (List RV)) (xs : List Value) : RowIs w t n (β id) es.length xs → (∀ e ∈ es, e.length = n) →
      (∀ j x, es.flatten[j]? = some x → RRel w ro x (xs.getD j undef)) → ORel w ro σ β N id (.row false t n es)
  | fro (t : TypeId) (n : Nat) (es : List (List RV)) : RRel w ro (.sl n es) (β id) → ORel w ro σ β N id (.row true t n es)
  | oth (Φ : Oth) (b : Nat) (o : Obj) : blk (β id) = some b → w.heap[b]? = some o → Φ.holds (RRel w ro) (β id) o → ORel w ro σ β N id (.oth Φ)

theorem RowIs.blkLt {w : World} {t : TypeId} {n : Nat} {v : Value} {len : Nat} {xs : List Value} (h : RowIs w t n v len xs) {b : Nat} (hb : blk v = some b) :
    b < w.heap.size ∧ ∃ cap cur, v = .slice (some ⟨b, 0, none⟩) len cap ∧ w.heap[b]? = some (.cells cur t (0, 0)) := by
  rcases h.2 with ⟨⟨c, rfl, _⟩, _⟩ | ⟨g, cap, cur, rfl, hc, hg, _⟩
  · cases c <;> simp [blk] at hb
  · have : cap ≠ 0 := by omega
    simp [blk, this] at hb
    subst hb
    exact ⟨(Array.getElem?_eq_some_iff.1 hg).1, cap, cur, rfl, hg⟩

theorem RowIs.keep {w w' : World} {t : TypeId} {n : Nat} {v : Value} {len : Nat} {xs : List Value} (h : RowIs w t n v len xs) (hw : ∀ b, blk v = some b → w'.heap[b]? = w.heap[b]?) (hsz : w.heap.size ≤ w'.heap.size) : RowIs w' t n v len xs := by
 refine ⟨h.1, ?_⟩
 rcases h.2 with ⟨⟨b, hv, hb⟩, hl⟩ | ⟨g, cap, cur, hv, hc, hg, rest⟩
 ·exact .inl ⟨⟨b, hv, fun a ha => Nat.lt_of_lt_of_le (hb a ha) hsz⟩, hl⟩
 ·have : cap ≠ 0 := by omega
  exact .inr ⟨g, cap, cur, hv, hc, (hw g (by rw [hv]; simp [blk, this])).trans hg, rest⟩

theorem ORel.blkLt {w : World} {ro : Nat → Prop} {σ : Heap} {β : Nat → Value} {N id : Nat} {o : AObj} (h : ORel w ro σ β N id o) (hl : o.live = true) {b : Nat} (hb : blk (β id) = some b) : b < w.heap.size := by
 cases h with
 | box t cs b' arr h1 h2 => rw [h1] at hb; simp [blk] at hb; subst hb; exact (Array.getElem?_eq_some_iff.1 h2).1
 | row t n es xs h1 => exact (h1.blkLt hb).1
 | fro => simp [AObj.live] at hl
 | oth Φ b' o h1 h2 => rw [h1] at hb; simp only [Option.some.injEq] at hb; subst hb; exact (Array.getElem?_eq_some_iff.1 h2).1

def Own (σ : Heap) (β : Nat → Value) (b : Nat) : Prop := ∃ id o, hget σ id = some o ∧ o.live = true ∧ blk (β id) = some b

structure HRel (w : World) (ro : Nat → Prop) (σ : Heap) (β : Nat → Value) (N : Nat) : Prop where
 objs : ∀ id o, hget σ id = some o → ORel w ro σ β N id o
 inj : ∀ id id' o o' b, hget σ id = some o → hget σ id' = some o' → o.live = true → o'.live = true → blk (β id) = some b → blk (β id') = some b → id = id'
 disj : ∀ b, ro b → ¬ Own σ β b
 lt : ∀ b, ro b → b < w.heap.size

abbrev Glob := Nat → Option (List RV)
def GRel (w : World) (ro : Nat → Prop) (G : Glob) : Prop := ∀ g cs, G g = some cs → RRel w ro (.ptr cs) (.pointer (some ⟨g, 0, none⟩)) ∧ ro g ∧ ∃ arr t fr, w.heap[g]? = some (.cells arr t fr) ∧ arr.size = cs.length

structure Entry where
 w : World
 ro : Nat → Prop
 σ : Heap
 β : Nat → Value
 n : Nat

structure Trans (E : Entry) (w : World) (ro : Nat → Prop) (σ : Heap) (β : Nat → Value) (n : Nat) : Prop where
 os : w.os = E.w.os
 tape : w.tape = E.w.tape
 output : w.output = E.w.output
 size : E.w.heap.size ≤ w.heap.size
 frame : ∀ b, b < E.w.heap.size → ¬ Own E.σ E.β b → w.heap[b]? = E.w.heap[b]?
 roSub : ∀ b, ro b → E.ro b ∨ Own E.σ E.β b ∨ E.w.heap.size ≤ b
 roKeep : ∀ b, E.ro b → ro b
 ownSub : ∀ b, Own σ β b → Own E.σ E.β b ∨ E.w.heap.size ≤ b
 old : ∀ id, id < E.n → ∀ o, hget σ id = some o → hget E.σ id ≠ none ∧ β id = E.β id
 new : ∀ id o, hget σ id = some o → id < n
 le : E.n ≤ n

structure St where
 slots : List AV
 heap : Heap
 next : Nat
 base : Nat

structure RelAt (E : Entry) (G : Glob) (s : St) (a : Act) (w : World) (β : Nat → Value) (ro : Nat → Prop) : Prop where
 defers : a.defers = []
 size : a.tmps.size = s.slots.length
 slot : ∀ i x, s.slots[i]? = some x → ARel w ro s.heap β s.next x (a.tmps.getD i undef)
 heap : HRel w ro s.heap β s.next
 glob : GRel w ro G
 trans : Trans E w ro s.heap β s.next
 base : E.n ≤ s.base

def Rel (E : Entry) (G : Glob) (s : St) (a : Act) (w : World) : Prop := ∃ β ro, RelAt E G s a w β ro

theorem ARel.keep {w w' : World} {ro ro' : Nat → Prop} {σ σ' : Heap} {β β' : Nat → Value} {N N' : Nat} {x : AV} {c : Value} (h : ARel w ro σ β N x c)
    (hw : ∀ b, ro b → w'.heap[b]? = w.heap[b]?) (hro : ∀ b, ro b → ro' b) (hN : N ≤ N')
    (hbox : ∀ id t cs, hget σ' id = some (.box t cs) → β' id = β id ∧ ∃ t cs, hget σ id = some (.box t cs))
    (hrow : ∀ id z t n es, hget σ' id = some (.row z t n es) → β' id = β id ∧ ∃ z t es, hget σ id = some (.row z t n es))
    (hoth : ∀ id Φ, hget σ' id = some (.oth Φ) → β' id = β id ∧ ∃ Φ, hget σ id = some (.oth Φ)) : ARel w' ro' σ' β' N' x c := by
  induction h with
  | rv x c hx => exact .rv x c (hx.keep hw hro)
  | agg cs c hs _ ih => exact .agg cs c hs ih
  | tuple cs c hs _ ih => exact .tuple cs c hs ih
  | ptr id off c hl hp =>
    refine .ptr id off c (by omega) fun t cs hg => ?_
    obtain ⟨hb, t', cs', hg'⟩ := hbox id t cs hg
    obtain ⟨b, h1, h2⟩ := hp t' cs' hg'
    exact ⟨b, hb.trans h1, h2⟩
  | bsl id off c hl hp =>
    refine .bsl id off c (by omega) fun t cs hg => ?_
    obtain ⟨hb, t', cs', hg'⟩ := hbox id t cs hg
    obtain ⟨b, h1, h2⟩ := hp t' cs' hg'
    exact ⟨b, hb.trans h1, h2⟩
  | eptr id i off c hl hp =>
    refine .eptr id i off c (by omega) fun z t n es hg => ?_
    obtain ⟨hb, z', t', es', hg'⟩ := hrow id z t n es hg
    obtain ⟨b, l, cp, h1, h2⟩ := hp z' t' n es' hg'
    exact ⟨b, l, cp, hb.trans h1, h2⟩
  | sl id c hl hp =>
    refine .sl id c (by omega) fun z t n es hg => ?_
    obtain ⟨hb, z', t', es', hg'⟩ := hrow id z t n es hg
    rw [hb]
    exact hp z' t' n es' hg'
  | fn f p q c d h1 h2 _ _ ih1 ih2 => exact .fn f p q c d h1 h2 ih1 ih2
  | ref id c hl hp =>
    refine .ref id c (by omega) fun Φ hg => ?_
    obtain ⟨hb, Φ', hg'⟩ := hoth id Φ hg
    rw [hb]
    exact hp Φ' hg'
  | top c => exact .top c

theorem GRel.keep {w w' : World} {ro ro' : Nat → Prop} {G : Glob} (h : GRel w ro G)
    (hw : ∀ b, ro b → w'.heap[b]? = w.heap[b]?) (hro : ∀ b, ro b → ro' b) : GRel w' ro' G := fun g cs hg => by
  obtain ⟨h1, h2, arr, t, fr, h3, h4⟩ := h g cs hg
  exact ⟨h1.keep hw hro, hro g h2, arr, t, fr, (hw g h2).trans h3, h4⟩

def St.put (s : St) (dst : Option Nat) (v : AV) : St :=
 match dst with
 | some d => { s with slots := s.slots.set d v }
 | none => s

theorem RelAt.put {E : Entry} {G : Glob} {s : St} {a : Act} {w : World} {β : Nat → Value} {ro : Nat → Prop} (h : RelAt E G s a w β ro) (dst : Option Nat) (v : AV) (c : Value)
    (hv : ARel w ro s.heap β s.next v c) : RelAt E G (s.put dst v) (a.put dst c) w β ro := by
  cases dst with
  | none => exact h
  | some d =>
    refine ⟨h.defers, by simpa [Act.put, St.put] using h.size, fun i x hx => ?_, h.heap, h.glob, h.trans, h.base⟩
    simp only [St.put, Act.put] at hx ⊢
    rw [List.getElem?_set] at hx
    have hsz := h.size
    by_cases hdi : d = i
    · subst hdi
      simp only [if_true] at hx
      split at hx
      · rename_i hlt
        simp only [Option.some.injEq] at hx
        subst hx
        have : d < a.tmps.size := by omega
        simpa [this] using hv
      · cases hx
    · simp only [hdi, if_false] at hx
      have := h.slot i x hx
      simpa [Array.getElem?_setIfInBounds_ne hdi] using this

end Go.Av
namespace Go.Av
open Go

def aval (G : Glob) (s : St) : Operand → AV
 | .tmp t => s.slots.getD t .top
 | .const v => if v.oneCell' then .rv (.v v) else .top
 | .global g => match G g with
  | some cs => .rv (.ptr cs)
  | none => .top
 | .func f => .fn (.func f) [] []

theorem RelAt.eval {E : Entry} {G : Glob} {s : St} {a : Act} {w : World} {β : Nat → Value} {ro : Nat → Prop} (h : RelAt E G s a w β ro) (x : Operand) :
    ARel w ro s.heap β s.next (aval G s x) (a.eval x) := by
  cases x with
  | tmp t =>
    simp only [aval, Act.eval]
    cases ht : s.slots[t]? with
    | none => simp only [List.getD, ht]; exact .top _
    | some v => simp only [List.getD, ht]; exact h.slot t v ht
  | const v =>
    simp only [aval, Act.eval]
    split
    · exact .rv _ _ (.v _ (by assumption))
    · exact .top _
  | global g =>
    simp only [aval, Act.eval]
    split
    · exact .rv _ _ (h.glob g _ (by assumption)).1
    · exact .top _
  | func f => exact .fn _ _ _ _ _ rfl rfl (by simp) (by simp)

def OpStep (P : Program) (G : Glob) (o : Oper) (s s' : St) : Prop :=
 ∀ E a w, Rel E G s a w → ∀ (K : Act → World → Prop) (Q : Exit → Act → World → Prop), (∀ a' w', Rel E G s' a' w' → K a' w') → o.wp P a w K Q

def Kp (w w' : World) : Prop := ∀ b, b < w.heap.size → w'.heap[b]? = w.heap[b]?
def KStep (P : Program) (G : Glob) (o : Oper) (s s' : St) : Prop :=
 ∀ E a w, Rel E G s a w → ∀ (K : Act → World → Prop) (Q : Exit → Act → World → Prop), (∀ a' w', Rel E G s' a' w' → Kp w w' → K a' w') → o.wp P a w K Q
theorem KStep.op {P : Program} {G : Glob} {o : Oper} {s s' : St} (h : KStep P G o s s') : OpStep P G o s s' := fun E a w hr K Q hK => h E a w hr K Q fun a' w' hr' _ => hK a' w' hr'

section
variable {P : Program} {G : Glob} {o : Oper} {s : St}

theorem OpStep.value {v : AV} (h : ∀ E a w β ro, RelAt E G s a w β ro → ∃ c, (execOp a.eval o).run P w = .ok (.value c) w ∧ ARel w ro s.heap β s.next v c) :
    OpStep P G o s (s.put o.dst v) := by
  intro E a w ⟨β, ro, hr⟩ K Q hK
  obtain ⟨c, hrun, hv⟩ := h E a w β ro hr
  unfold Oper.wp
  rw [hrun]
  exact hK _ _ ⟨β, ro, hr.put o.dst v c hv⟩

abbrev VStep (P : Program) (G : Glob) (o : Oper) (s : St) (v : AV) : Prop :=
 ∀ E a w β ro, RelAt E G s a w β ro → ∃ c, (execOp a.eval o).run P w = .ok (.value c) w ∧ ARel w ro s.heap β s.next v c
theorem VStep.step {v : AV} (h : VStep P G o s v) : OpStep P G o s (s.put o.dst v) := .value h
theorem VStep.kstep {v : AV} (h : VStep P G o s v) : KStep P G o s (s.put o.dst v) := by
 intro E a w ⟨β, ro, hr⟩ K Q hK
 obtain ⟨c, hrun, hv⟩ := h E a w β ro hr
 unfold Oper.wp
 rw [hrun]
 exact hK _ _ ⟨β, ro, hr.put o.dst v c hv⟩ fun _ _ => rfl

theorem R_move (x : Operand) (ho : o.op = .move x) : VStep P G o s (aval G s x) :=
 fun _ a w _ _ hr => ⟨a.eval x, by simp [execOp, ho], hr.eval x⟩
theorem R_assign (x : Operand) (ho : o.op = .assign x) : VStep P G o s (aval G s x) :=
 fun _ a w _ _ hr => ⟨a.eval x, by simp [execOp, ho], hr.eval x⟩

def acells (σ : Heap) : AV → Option (List AV)
 | .rv (.ptr cs) => some (cs.map .rv)
 | .ptr id off => match hget σ id with
  | some (.box _ cs) => some (cs.drop off)
  | _ => none
 | .eptr id i off => match hget σ id with
  | some (.row false _ _ es) => match es[i]? with
   | some e => some ((e.drop off).map .rv)
   | none => none
  | _ => none
 | _ => none

theorem flatten_at {α : Type} {n : Nat} : ∀ {es : List (List α)}, (∀ e ∈ es, e.length = n) → ∀ {i : Nat} {e : List α}, es[i]? = some e → ∀ j, j < n → es.flatten[i * n + j]? = e[j]?
 | [], _, i, e, h, _, _ => by simp at h
 | x :: r, hn, i, e, h, j, hj => by
  have hx : x.length = n := hn x (by simp)
  cases i with
  | zero =>
   simp at h
   subst h
   simp only [List.flatten_cons, Nat.zero_mul, Nat.zero_add]
   rw [List.getElem?_append_left (by omega)]
  | succ i =>
   simp at h
   have ih := flatten_at (es := r) (fun e he => hn e (by simp [he])) h j hj
   simp only [List.flatten_cons]
   rw [List.getElem?_append_right (by rw [Nat.succ_mul]; omega), ← ih]
   congr 1
   rw [Nat.succ_mul]; omega

theorem length_flatten_of {α : Type} {n : Nat} : ∀ {es : List (List α)}, (∀ e ∈ es, e.length = n) → es.flatten.length = es.length * n
 | [], _ => by simp
 | x :: r, hn => by
  simp only [List.flatten_cons, List.length_append, List.length_cons, Nat.succ_mul]
  rw [length_flatten_of (es := r) (fun e he => hn e (by simp [he])), hn x (by simp)]
  omega

theorem ARel.one {w : World} {ro : Nat → Prop} {σ : Heap} {β : Nat → Value} {N : Nat} {x : RV} {c : Value} (h : ARel w ro σ β N (.rv x) c) : c.oneCell' = true := by
 cases h with
 | rv _ _ h => exact h.one

theorem read_cells {w : World} {ro : Nat → Prop} {σ : Heap} {β : Nat → Value} {N : Nat} (hh : HRel w ro σ β N) {p : AV} {c : Value} {cs : List AV} (hp : acells σ p = some cs) (hc : ARel w ro σ β N p c)
    (hne : cs ≠ []) : ∃ a, c = .pointer (some a) ∧ ∃ f : Nat → Value, ∀ j x, cs[j]? = some x → w.cell? (a.add j) = some (f j) ∧ ARel w ro σ β N x (f j) := by
  cases hc with
  | rv x c hx =>
    cases hx with
    | v x => simp [acells] at hp
    | ptr cs' a f h1 h2 =>
      simp only [acells, Option.some.injEq] at hp
      subst hp
      refine ⟨a, rfl, f, fun j x hj => ?_⟩
      rw [List.getElem?_map] at hj
      cases hcj : cs'[j]? with
      | none => simp [hcj] at hj
      | some y =>
        simp [hcj] at hj
        subst hj
        exact ⟨(h1 j y hcj).2, .rv _ _ (h2 j y hcj)⟩
    | sl => simp [acells] at hp
    | mp => simp [acells] at hp
    | li => simp [acells] at hp
  | ptr id off c hlt hcc =>
    simp only [acells] at hp
    cases ho : hget σ id with
    | none => simp [ho] at hp
    | some ob =>
      cases ob with
      | row => simp [ho] at hp
      | oth => simp [ho] at hp
      | box t cs' =>
        simp only [ho, Option.some.injEq] at hp
        subst hp
        obtain ⟨b, hb, rfl⟩ := hcc t cs' ho
        have hO := hh.objs id _ ho
        cases hO with
        | box _ _ b' arr hb' hg hsz hcells =>
          rw [hb] at hb'
          simp only [Value.pointer.injEq, Option.some.injEq, Addr.mk.injEq, and_true] at hb'
          subst hb'
          refine ⟨_, rfl, fun j => arr.getD (off + j) undef, fun j x hj => ?_⟩
          rw [List.getElem?_drop] at hj
          have hlt : off + j < cs'.length := by
            rcases Nat.lt_or_ge (off + j) cs'.length with h | h
            · exact h
            · rw [List.getElem?_eq_none h] at hj; cases hj
          refine ⟨?_, hcells _ _ hj⟩
          rw [addLit, cell_of_row w b (off + j) arr t (0, 0) hg]
          have : off + j < arr.size := by omega
          simp [this]
  | eptr id i off c hlt hcc =>
    simp only [acells] at hp
    cases ho : hget σ id with
    | none => simp [ho] at hp
    | some ob =>
      cases ob with
      | box => simp [ho] at hp
      | oth => simp [ho] at hp
      | row z t n es =>
        cases z with
        | true => simp [ho] at hp
        | false =>
          simp only [ho] at hp
          cases hei : es[i]? with
          | none => simp [hei] at hp
          | some e =>
            simp only [hei, Option.some.injEq] at hp
            subst hp
            obtain ⟨b, l, cp, hb, rfl⟩ := hcc false t n es ho
            have hO := hh.objs id _ ho
            cases hO with
            | row _ _ _ xs hown hn hcells =>
              rw [hb] at hown
              obtain ⟨hxlen, hrest⟩ := hown
              rcases hrest with ⟨⟨_, h, _⟩, hz⟩ | ⟨g, cap, cur, hv, _, hg, hle, hcm, hcs, htake⟩
              · have := (List.getElem?_eq_some_iff.1 hei).1; omega
              · simp only [Value.slice.injEq, Option.some.injEq, Addr.mk.injEq, and_true] at hv
                obtain ⟨rfl, _, _⟩ := hv
                refine ⟨_, rfl, fun j => xs.getD (i * n + (off + j)) undef, fun j x hj => ?_⟩
                rw [List.getElem?_map] at hj
                cases hcj : (e.drop off)[j]? with
                | none => simp [hcj] at hj
                | some y =>
                  simp [hcj] at hj
                  subst hj
                  rw [List.getElem?_drop] at hcj
                  have hel : e.length = n := hn e (List.mem_of_getElem? hei)
                  have hjn : off + j < n := by
                    rcases Nat.lt_or_ge (off + j) e.length with h | h
                    · omega
                    · rw [List.getElem?_eq_none h] at hcj; cases hcj
                  have hfl : es.flatten[i * n + (off + j)]? = some y := by rw [flatten_at hn hei _ hjn]; exact hcj
                  refine ⟨?_, .rv _ _ (hcells _ _ hfl)⟩
                  have hxl : i * n + (off + j) < xs.length := by
                    have h1 : i * n + (off + j) < es.flatten.length := by
                      rcases Nat.lt_or_ge (i * n + (off + j)) es.flatten.length with h | h
                      · exact h
                      · rw [List.getElem?_eq_none h] at hfl; cases hfl
                    rw [length_flatten_of hn] at h1
                    have h2 := hxlen
                    omega
                  rw [addLit, Nat.add_assoc, cell_of_row w b _ cur t (0, 0) hg]
                  have hx : xs[i * n + (off + j)]? = cur[i * n + (off + j)]? := by
                    rw [← htake, List.getElem?_take]
                    have h2 := hxlen
                    rw [if_pos (by omega)]
                    simp
                  rw [← hx]
                  simp [List.getD, List.getElem?_eq_getElem hxl]
  | agg => simp [acells] at hp
  | tuple => simp [acells] at hp
  | sl => simp [acells] at hp
  | fn => simp [acells] at hp
  | ref => simp [acells] at hp
  | bsl => simp [acells] at hp
  | top => simp [acells] at hp

def aggSize (P : Program) (t : TypeId) : Option Nat :=
 match P.underlying t with
 | some (.struct _) | some (.array _ _) => (P.info? t).map (·.size)
 | _ => none
def scalar (P : Program) (t : TypeId) : Bool :=
 match P.underlying t with
 | some (.struct _) | some (.array _ _) | none => false
 | _ => true

theorem run_isAgg_agg {t : TypeId} {n : Nat} (h : aggSize P t = some n) (w : World) : (isAgg t).run P w = .ok true w ∧ (sizeOf t).run P w = .ok n w := by
 unfold aggSize at h
 cases hu : P.underlying t with
 | none => simp [hu] at h
 | some d =>
  cases hi : P.info? t with
  | none => cases d <;> simp [hu, hi] at h
  | some i =>
   cases d <;> simp [hu, hi] at h
   all_goals
    subst h
    exact ⟨by simp [isAgg, run_underlying hu], by simp [sizeOf, typeInfo, hi]⟩
theorem run_isAgg_scalar {t : TypeId} (h : scalar P t = true) (w : World) : (isAgg t).run P w = .ok false w := by
 unfold scalar at h
 cases hu : P.underlying t with
 | none => simp [hu] at h
 | some d => cases d <;> simp [hu] at h <;> simp [isAgg, run_underlying hu]

theorem R_load_agg (t : TypeId) (x : Operand) (ho : o.op = .load t x) {n : Nat} (ht : aggSize P t = some n) {cs : List AV} (hp : acells s.heap (aval G s x) = some cs) (hn : n ≤ cs.length) (h0 : 0 < n) :
    VStep P G o s (.agg (cs.take n)) :=
  fun _ a w β ro hr => by
    obtain ⟨ad, hc, f, hf⟩ := read_cells hr.heap hp (hr.eval x) (by intro h; subst h; simp at hn; omega)
    obtain ⟨h1, h2⟩ := run_isAgg_agg ht w
    have hl := run_loadCells (P := P) w ad n f (fun j hj => (hf j (cs[j]'(by omega)) (by simp)).1)
    refine ⟨.agg ((List.range n).map f).toArray, ?_, .agg _ _ (by simp; omega) fun j y hj => ?_⟩
    · simp [execOp, ho, hc, Instr.loadAt, Instr.sureAddr, loadVar, h1, h2, hl]
    · rw [List.getElem?_take] at hj
      split at hj
      · have := (hf j y hj).2
        rename_i hjn
        simpa [hjn] using this
      · cases hj

theorem R_load (t : TypeId) (x : Operand) (ho : o.op = .load t x) (ht : scalar P t = true) {y : AV} {cs : List AV} (hp : acells s.heap (aval G s x) = some (y :: cs)) :
    VStep P G o s y :=
  fun _ a w β ro hr => by
    obtain ⟨ad, hc, f, hf⟩ := read_cells hr.heap hp (hr.eval x) (by simp)
    have h1 := run_isAgg_scalar ht w
    obtain ⟨hcell, hrel⟩ := hf 0 y rfl
    rw [show ad.add 0 = ad from by simp [Addr.add]] at hcell
    exact ⟨f 0, by simp [execOp, ho, hc, Instr.loadAt, Instr.sureAddr, loadVar, h1, run_load, hcell], hrel⟩

def fldOff (P : Program) (t : TypeId) (f : Nat) : Option Nat :=
 match P.underlying t with
 | some (.struct fs) => match fs[f]? with
  | some fd => match P.info? fd.type with
   | some i => if i.size = 0 then none else some fd.offset
   | none => none
  | none => none
 | _ => none

def ashift (k : Nat) : AV → Option AV
 | .rv (.ptr cs) => some (.rv (.ptr (cs.drop k)))
 | .ptr id off => some (.ptr id (off + k))
 | .eptr id i off => some (.eptr id i (off + k))
 | _ => none


theorem ashift_rel {w : World} {ro : Nat → Prop} {σ : Heap} {β : Nat → Value} {N : Nat} {p q : AV} {c : Value} {cs : List AV} {k : Nat} (hs : ashift k p = some q) (hp : acells σ p = some cs) (hc : ARel w ro σ β N p c) :
    ∃ a, c = .pointer (some a) ∧ ARel w ro σ β N q (.pointer (some (a.add k))) := by
  cases hc with
  | rv x c hx =>
    cases hx with
    | v x => simp [ashift] at hs
    | ptr cs' a f h1 h2 =>
      simp only [ashift, Option.some.injEq] at hs
      subst hs
      refine ⟨a, rfl, .rv _ _ (.ptr _ _ (fun j => f (k + j)) (fun j x hj => ?_) (fun j x hj => ?_))⟩
      · rw [List.getElem?_drop] at hj
        rw [addB, addAdd]
        exact h1 _ _ hj
      · rw [List.getElem?_drop] at hj
        exact h2 _ _ hj
    | sl => simp [ashift] at hs
    | mp => simp [ashift] at hs
    | li => simp [ashift] at hs
  | ptr id off c hlt hcc =>
    simp only [ashift, Option.some.injEq] at hs
    subst hs
    simp only [acells] at hp
    split at hp
    · rename_i t cs' ho
      obtain ⟨b, hb, rfl⟩ := hcc t cs' ho
      refine ⟨_, rfl, .ptr _ _ _ hlt fun t' cs'' ho' => ⟨b, hb, by rw [addLit]⟩⟩
    · cases hp
  | eptr id i off c hlt hcc =>
    simp only [ashift, Option.some.injEq] at hs
    subst hs
    simp only [acells] at hp
    split at hp
    · rename_i t n es ho
      obtain ⟨b, l, cp, hb, rfl⟩ := hcc false t n es ho
      refine ⟨_, rfl, .eptr _ _ _ _ hlt fun z' t' n' es' ho' => ⟨b, l, cp, hb, ?_⟩⟩
      rw [ho] at ho'
      simp only [Option.some.injEq, AObj.row.injEq] at ho'
      obtain ⟨_, _, rfl, _⟩ := ho'
      rw [addLit, Nat.add_assoc]
    · cases hp
  | agg => simp [ashift] at hs
  | tuple => simp [ashift] at hs
  | sl => simp [ashift] at hs
  | fn => simp [ashift] at hs
  | ref => simp [ashift] at hs
  | bsl => simp [ashift] at hs
  | top => simp [ashift] at hs

theorem fldOff_run {t f k : Nat} (h : fldOff P t f = some k) (a : Addr) (w : World) : (Instr.fieldAt t (.pointer (some a)) f).run P w = .ok (.pointer (some (a.add k))) w := by
 unfold fldOff at h
 split at h
 ·rename_i fs hu
  split at h
  ·rename_i fd hf
   split at h
   ·rename_i i hi
    split at h
    ·cases h
    ·rename_i hz
     simp only [Option.some.injEq] at h
     subst h
     simp [Instr.fieldAt, run_underlying hu, hf, Instr.sureAddr, fieldPlace, sizeOf, typeInfo, hi, hz]
   ·cases h
  ·cases h
 ·cases h

def ptrA (σ : Heap) : AV → Bool
 | .rv (.ptr _) => true
 | .ptr id _ => match hget σ id with
  | some (.box _ _) => true
  | _ => false
 | .eptr id _ _ => match hget σ id with
  | some (.row _ _ _ _) => true
  | _ => false
 | _ => false
def shiftP (k : Nat) : AV → AV
 | .rv (.ptr cs) => .rv (.ptr (cs.drop k))
 | .ptr id off => .ptr id (off + k)
 | .eptr id i off => .eptr id i (off + k)
 | x => x
theorem ptrA_rel {w : World} {ro : Nat → Prop} {σ : Heap} {β : Nat → Value} {N : Nat} {x : AV} {c : Value} (hx : ptrA σ x = true) (h : ARel w ro σ β N x c) : ∃ a, c = .pointer (some a) ∧ ∀ k, ARel w ro σ β N (shiftP k x) (.pointer (some (a.add k))) := by
 cases h with
 | rv x c hr =>
  cases hr with
  | ptr cs a f h1 h2 =>
   refine ⟨a, rfl, fun k => .rv _ _ (.ptr _ _ (fun j => f (k + j)) (fun j x hj => ?_) (fun j x hj => ?_))⟩
   ·rw [List.getElem?_drop] at hj
    rw [addB, addAdd]
    exact h1 _ _ hj
   ·rw [List.getElem?_drop] at hj
    exact h2 _ _ hj
  | v => simp [ptrA] at hx
  | sl => simp [ptrA] at hx
  | mp => simp [ptrA] at hx
  | li => simp [ptrA] at hx
 | ptr id off c hl hp =>
  simp only [ptrA] at hx
  split at hx
  ·rename_i t cs hg
   obtain ⟨b, hb, rfl⟩ := hp t cs hg
   refine ⟨_, rfl, fun k => .ptr id (off + k) _ hl fun t' cs' hg' => ?_⟩
   obtain ⟨b', hb', hc'⟩ := hp t' cs' hg'
   rw [hb] at hb'
   simp only [Value.pointer.injEq, Option.some.injEq, Addr.mk.injEq, and_true] at hb'
   subst hb'
   exact ⟨b, hb, by rw [addLit]⟩
  ·cases hx
 | eptr id i off c hl hp =>
  simp only [ptrA] at hx
  split at hx
  ·rename_i z t n es hg
   obtain ⟨b, l, cp, hb, rfl⟩ := hp z t n es hg
   refine ⟨_, rfl, fun k => .eptr id i (off + k) _ hl fun z' t' n' es' hg' => ?_⟩
   rw [hg] at hg'
   simp only [Option.some.injEq, AObj.row.injEq] at hg'
   obtain ⟨_, _, rfl, _⟩ := hg'
   exact ⟨b, l, cp, hb, by rw [addLit, Nat.add_assoc]⟩
  ·cases hx
 | _ => simp [ptrA] at hx
theorem R_fieldAddrP (t : TypeId) (x : Operand) (f : Nat) (ho : o.op = .fieldAddr t x f) {k : Nat} (hk : fldOff P t f = some k) (hp : ptrA s.heap (aval G s x) = true) : VStep P G o s (shiftP k (aval G s x)) :=
 fun _ a w β ro hr => by
  obtain ⟨ad, hc, hrel⟩ := ptrA_rel hp (hr.eval x)
  exact ⟨_, by simp [execOp, ho, hc, fldOff_run hk], hrel k⟩
theorem R_nilCheckP (x : Operand) (ho : o.op = .nilCheck x) (hp : ptrA s.heap (aval G s x) = true) : VStep P G o s (aval G s x) :=
 fun _ a w β ro hr => by
  obtain ⟨ad, hc, _⟩ := ptrA_rel hp (hr.eval x)
  exact ⟨_, by simp [execOp, ho, hc], hc ▸ hr.eval x⟩

end
end Go.Av
namespace Go.Av
open Go

def upd (β : Nat → Value) (id : Nat) (v : Value) : Nat → Value := fun k => if k = id then v else β k
theorem upd_same (β : Nat → Value) (id : Nat) (v : Value) : upd β id v id = v := by simp [upd]
theorem upd_ne (β : Nat → Value) {id k : Nat} (v : Value) (h : k ≠ id) : upd β id v k = β k := by simp [upd, h]

section
variable {E : Entry} {G : Glob} {s : St} {a : Act} {w w' : World} {β : Nat → Value} {ro : Nat → Prop}

theorem ORel.keep {w w' : World} {ro ro' : Nat → Prop} {σ σ' : Heap} {β β' : Nat → Value} {N N' : Nat} {id : Nat} {o : AObj} (h : ORel w ro σ β N id o)
    (hw : ∀ b, ro b → w'.heap[b]? = w.heap[b]?) (hro : ∀ b, ro b → ro' b) (hN : N ≤ N') (hsz : w.heap.size ≤ w'.heap.size) (hid : β' id = β id) (hblk : o.live = true → ∀ b, blk (β id) = some b → w'.heap[b]? = w.heap[b]?)
    (hbox : ∀ id t cs, hget σ' id = some (.box t cs) → β' id = β id ∧ ∃ t cs, hget σ id = some (.box t cs))
    (hrow : ∀ id z t n es, hget σ' id = some (.row z t n es) → β' id = β id ∧ ∃ z t es, hget σ id = some (.row z t n es))
    (hoth : ∀ id Φ, hget σ' id = some (.oth Φ) → β' id = β id ∧ ∃ Φ, hget σ id = some (.oth Φ)) : ORel w' ro' σ' β' N' id o := by
  cases h with
  | box t cs b arr h1 h2 h3 h4 =>
    exact .box t cs b arr (hid.trans h1) ((hblk rfl b (by rw [h1]; rfl)).trans h2) h3 fun j x hj => (h4 j x hj).keep hw hro hN hbox hrow hoth
  | row t n es xs h1 h2 h3 =>
    exact .row t n es xs (by rw [hid]; exact h1.keep (fun b hb => hblk rfl b hb) hsz) h2 fun j x hj => (h3 j x hj).keep hw hro
  | fro t n es h1 => exact .fro t n es (by rw [hid]; exact h1.keep hw hro)
  | oth Φ b o h1 h2 h3 => exact .oth Φ b o (by rw [hid]; exact h1) ((hblk rfl b h1).trans h2) (by rw [hid]; exact Φ.mono _ _ _ _ (fun x c h => h.keep hw hro) h3)

theorem RelAt.new (h : RelAt E G s a w β ro) (id : Nat) (hid : hget s.heap id = none) (hb : s.base ≤ id) (hlt : s.next ≤ id) (o : AObj) (val : Value)
    (hos : w'.os = w.os) (htape : w'.tape = w.tape) (hout : w'.output = w.output) (hsz : w.heap.size ≤ w'.heap.size) (hw : ∀ b, b < w.heap.size → w'.heap[b]? = w.heap[b]?)
    (hblk : ∀ b, blk val = some b → w.heap.size ≤ b) (_hlive : o.live = true)
    (hO : ORel w' ro ((id, o) :: s.heap) (upd β id val) (id + 1) id o) : RelAt E G { s with heap := (id, o) :: s.heap, next := id + 1 } a w' (upd β id val) ro := by
  have hro : ∀ b, ro b → w'.heap[b]? = w.heap[b]? := fun b hr => hw b (h.heap.lt b hr)
  have hg : ∀ k, k ≠ id → hget ((id, o) :: s.heap) k = hget s.heap k := fun k hk => by simp [hget, Ne.symm hk]
  have hgi : hget ((id, o) :: s.heap) id = some o := by simp [hget]
  have ownOld : ∀ k p b, hget s.heap k = some p → p.live = true → blk (β k) = some b → b < w.heap.size := fun k p b hk hp hbk => (h.heap.objs k p hk).blkLt hp hbk
  have key : ∀ x c, ARel w ro s.heap β s.next x c → ARel w' ro ((id, o) :: s.heap) (upd β id val) (id + 1) x c := by
    intro x c hx
    induction hx with
    | rv x c hx => exact .rv x c (hx.keep hro fun _ h => h)
    | agg cs c hs _ ih => exact .agg cs c hs ih
    | tuple cs c hs _ ih => exact .tuple cs c hs ih
    | ptr k off c hl hp =>
      have hk : k ≠ id := by omega
      exact .ptr k off c (by omega) fun t cs hgk => by rw [upd_ne _ _ hk]; rw [hg k hk] at hgk; exact hp t cs hgk
    | bsl k off c hl hp =>
      have hk : k ≠ id := by omega
      exact .bsl k off c (by omega) fun t cs hgk => by rw [upd_ne _ _ hk]; rw [hg k hk] at hgk; exact hp t cs hgk
    | eptr k i off c hl hp =>
      have hk : k ≠ id := by omega
      exact .eptr k i off c (by omega) fun z t n es hgk => by rw [upd_ne _ _ hk]; rw [hg k hk] at hgk; exact hp z t n es hgk
    | sl k c hl hp =>
      have hk : k ≠ id := by omega
      exact .sl k c (by omega) fun z t n es hgk => by rw [upd_ne _ _ hk]; rw [hg k hk] at hgk; exact hp z t n es hgk
    | fn f p q c d h1 h2 _ _ ih1 ih2 => exact .fn f p q c d h1 h2 ih1 ih2
    | ref k c hl hp =>
      have hk : k ≠ id := by omega
      exact .ref k c (by omega) fun Φ hgk => by rw [upd_ne _ _ hk]; rw [hg k hk] at hgk; exact hp Φ hgk
    | top c => exact .top c
  refine ⟨h.defers, h.size, fun i x hx => key _ _ (h.slot i x hx), ⟨fun k p hk => ?_, fun k k' p p' b hk hk' hp hp' hbk hbk' => ?_, fun b hr => ?_, fun b hr => Nat.lt_of_lt_of_le (h.heap.lt b hr) hsz⟩,
    h.glob.keep hro fun _ h => h, ?_, h.base⟩
  · by_cases hki : k = id
    · subst hki
      rw [hgi] at hk
      simp only [Option.some.injEq] at hk
      subst hk
      exact hO
    · rw [hg k hki] at hk
      have hoo := h.heap.objs k p hk
      cases hoo with
      | box t cs b arr h1 h2 h3 h4 =>
        have hbl := ownOld k _ b hk rfl (by rw [h1]; rfl)
        exact .box t cs b arr (by rw [upd_ne _ _ hki]; exact h1) ((hw b hbl).trans h2) h3 fun j x hj => key _ _ (h4 j x hj)
      | row t n es xs h1 h2 h3 =>
        exact .row t n es xs (by rw [upd_ne _ _ hki]; exact h1.keep (fun b hb => hw b (h1.blkLt hb).1) hsz) h2 fun j x hj => (h3 j x hj).keep hro fun _ h => h
      | fro t n es h1 => exact .fro t n es (by rw [upd_ne _ _ hki]; exact h1.keep hro fun _ h => h)
      | oth Φ b o h1 h2 h3 => exact .oth Φ b o (by rw [upd_ne _ _ hki]; exact h1) ((hw b (Array.getElem?_eq_some_iff.1 h2).1).trans h2) (by rw [upd_ne _ _ hki]; exact Φ.mono _ _ _ _ (fun x c h => h.keep hro fun _ h => h) h3)
  · by_cases hki : k = id
    · by_cases hki' : k' = id
      · rw [hki, hki']
      · subst hki
        rw [upd_same] at hbk
        rw [upd_ne _ _ hki'] at hbk'
        rw [hg k' hki'] at hk'
        have h1 := hblk b hbk
        have h2 := ownOld k' p' b hk' hp' hbk'
        omega
    · by_cases hki' : k' = id
      · subst hki'
        rw [upd_same] at hbk'
        rw [upd_ne _ _ hki] at hbk
        rw [hg k hki] at hk
        have h1 := hblk b hbk'
        have h2 := ownOld k p b hk hp hbk
        omega
      · rw [upd_ne _ _ hki] at hbk
        rw [upd_ne _ _ hki'] at hbk'
        rw [hg k hki] at hk
        rw [hg k' hki'] at hk'
        exact h.heap.inj k k' p p' b hk hk' hp hp' hbk hbk'
  · rintro ⟨k, p, hk, hp, hbk⟩
    by_cases hki : k = id
    · subst hki
      rw [upd_same] at hbk
      have h1 := hblk b hbk
      have h2 := h.heap.lt b hr
      omega
    · rw [upd_ne _ _ hki] at hbk
      rw [hg k hki] at hk
      exact h.heap.disj b hr ⟨k, p, hk, hp, hbk⟩
  · have t := h.trans
    refine ⟨hos.trans t.os, htape.trans t.tape, hout.trans t.output, Nat.le_trans t.size hsz, fun b hbl hno => ?_, t.roSub, t.roKeep, ?_, fun k hk p hgk => ?_, fun k p hgk => ?_, Nat.le_trans h.base (Nat.le_trans hb (Nat.le_succ _))⟩
    · rw [hw b (Nat.lt_of_lt_of_le hbl t.size)]
      exact t.frame b hbl hno
    · rintro b ⟨k, p, hk, hp, hbk⟩
      by_cases hki : k = id
      · subst hki
        rw [upd_same] at hbk
        exact .inr (Nat.le_trans t.size (hblk b hbk))
      · rw [upd_ne _ _ hki] at hbk
        rw [hg k hki] at hk
        exact t.ownSub b ⟨k, p, hk, hp, hbk⟩
    · have hki : k ≠ id := by have := h.base; omega
      rw [hg k hki] at hgk
      rw [upd_ne _ _ hki]
      exact t.old k hk p hgk
    · by_cases hki : k = id
      · subst hki; exact Nat.lt_succ_self _
      · rw [hg k hki] at hgk
        have := t.new k p hgk
        show k < id + 1
        omega

theorem RelAt.write (h : RelAt E G s a w β ro) (id : Nat) (o o' : AObj) (hid : hget s.heap id = some o) (hlive : o.live = true) (hlive' : o'.live = true)
    (hkind : (∃ t cs cs', o = .box t cs ∧ o' = .box t cs') ∨ (∃ t n es es', o = .row false t n es ∧ o' = .row false t n es') ∨ (∃ Φ Φ', o = .oth Φ ∧ o' = .oth Φ'))
    (hos : w'.os = w.os) (htape : w'.tape = w.tape) (hout : w'.output = w.output) (hsz : w.heap.size ≤ w'.heap.size) (hw : ∀ b, b < w.heap.size → blk (β id) ≠ some b → w'.heap[b]? = w.heap[b]?)
    (hO : ORel w' ro (hset s.heap id o') β s.next id o') : RelAt E G { s with heap := hset s.heap id o' } a w' β ro := by
  have hro : ∀ b, ro b → w'.heap[b]? = w.heap[b]? := fun b hr => hw b (h.heap.lt b hr) fun hb => h.heap.disj b hr ⟨id, o, hid, hlive, hb⟩
  have hg := hget_hset s.heap id o'
  have own : ∀ b, Own (hset s.heap id o') β b → Own s.heap β b := by
    rintro b ⟨k, p, hk, hp, hbk⟩
    rw [hg k] at hk
    by_cases hki : id = k
    · subst hki; exact ⟨id, o, hid, hlive, hbk⟩
    · rw [if_neg hki] at hk; exact ⟨k, p, hk, hp, hbk⟩
  have ownLt : ∀ k p b, hget s.heap k = some p → p.live = true → blk (β k) = some b → b < w.heap.size := fun k p b hk hp hbk => (h.heap.objs k p hk).blkLt hp hbk
  have hbox : ∀ k t cs, hget (hset s.heap id o') k = some (.box t cs) → β k = β k ∧ ∃ t cs, hget s.heap k = some (.box t cs) := by
    intro k t cs hk
    rw [hg k] at hk
    by_cases hki : id = k
    · subst hki
      rw [if_pos rfl] at hk
      simp only [Option.some.injEq] at hk
      rcases hkind with ⟨t1, c1, c2, rfl, rfl⟩ | ⟨t1, n, e1, e2, rfl, rfl⟩ | ⟨_, _, rfl, rfl⟩
      · exact ⟨rfl, t1, c1, hid⟩
      · cases hk
      · cases hk
    · rw [if_neg hki] at hk; exact ⟨rfl, t, cs, hk⟩
  have hrow : ∀ k z t n es, hget (hset s.heap id o') k = some (.row z t n es) → β k = β k ∧ ∃ z t es, hget s.heap k = some (.row z t n es) := by
    intro k z t n es hk
    rw [hg k] at hk
    by_cases hki : id = k
    · subst hki
      rw [if_pos rfl] at hk
      simp only [Option.some.injEq] at hk
      rcases hkind with ⟨t1, c1, c2, rfl, rfl⟩ | ⟨t1, n1, e1, e2, rfl, rfl⟩ | ⟨_, _, rfl, rfl⟩
      · cases hk
      · simp only [AObj.row.injEq] at hk
        obtain ⟨_, _, rfl, _⟩ := hk
        exact ⟨rfl, _, _, _, hid⟩
      · cases hk
    · rw [if_neg hki] at hk; exact ⟨rfl, z, t, es, hk⟩
  have hoth : ∀ k Φ, hget (hset s.heap id o') k = some (.oth Φ) → β k = β k ∧ ∃ Φ, hget s.heap k = some (.oth Φ) := by
    intro k Φ hk
    rw [hg k] at hk
    by_cases hki : id = k
    · subst hki
      rw [if_pos rfl] at hk
      simp only [Option.some.injEq] at hk
      rcases hkind with ⟨t1, c1, c2, rfl, rfl⟩ | ⟨t1, n1, e1, e2, rfl, rfl⟩ | ⟨Φ1, _, rfl, rfl⟩
      · cases hk
      · cases hk
      · exact ⟨rfl, Φ1, hid⟩
    · rw [if_neg hki] at hk; exact ⟨rfl, Φ, hk⟩
  refine ⟨h.defers, h.size, fun i x hx => (h.slot i x hx).keep hro (fun _ h => h) (Nat.le_refl _) hbox hrow hoth, ⟨fun k p hk => ?_, fun k k' p p' b hk hk' hp hp' hbk hbk' => ?_, fun b hr hb => h.heap.disj b hr (own b hb),
    fun b hr => Nat.lt_of_lt_of_le (h.heap.lt b hr) hsz⟩, h.glob.keep hro fun _ h => h, ?_, h.base⟩
  · rw [hg k] at hk
    by_cases hki : id = k
    · subst hki
      rw [if_pos rfl] at hk
      simp only [Option.some.injEq] at hk
      subst hk
      exact hO
    · rw [if_neg hki] at hk
      refine (h.heap.objs k p hk).keep hro (fun _ h => h) (Nat.le_refl _) hsz rfl (fun hl b hb => hw b (ownLt k p b hk hl hb) fun hbi => hki (h.heap.inj id k o p b hid hk hlive hl hbi hb)) hbox hrow hoth
  · have h1 : ∃ q, hget s.heap k = some q ∧ q.live = true := by
      rw [hg k] at hk
      by_cases hki : id = k
      · subst hki; exact ⟨o, hid, hlive⟩
      · rw [if_neg hki] at hk; exact ⟨p, hk, hp⟩
    have h2 : ∃ q, hget s.heap k' = some q ∧ q.live = true := by
      rw [hg k'] at hk'
      by_cases hki : id = k'
      · subst hki; exact ⟨o, hid, hlive⟩
      · rw [if_neg hki] at hk'; exact ⟨p', hk', hp'⟩
    obtain ⟨q, hq, hql⟩ := h1
    obtain ⟨q', hq', hql'⟩ := h2
    exact h.heap.inj k k' q q' b hq hq' hql hql' hbk hbk'
  · have t := h.trans
    refine ⟨hos.trans t.os, htape.trans t.tape, hout.trans t.output, Nat.le_trans t.size hsz, fun b hbl hno => ?_, t.roSub, t.roKeep, fun b hb => t.ownSub b (own b hb), fun k hk p hgk => ?_, fun k p hgk => ?_, t.le⟩
    · by_cases hbi : blk (β id) = some b
      · rcases t.ownSub b ⟨id, o, hid, hlive, hbi⟩ with hc | hc
        · exact absurd hc hno
        · omega
      · rw [hw b (Nat.lt_of_lt_of_le hbl t.size) hbi]
        exact t.frame b hbl hno
    · rw [hg k] at hgk
      by_cases hki : id = k
      · subst hki; exact t.old id hk o hid
      · rw [if_neg hki] at hgk; exact t.old k hk p hgk
    · rw [hg k] at hgk
      by_cases hki : id = k
      · subst hki; exact t.new id o hid
      · rw [if_neg hki] at hgk; exact t.new k p hgk
end
end Go.Av
namespace Go.Av
open Go

def vcells : AV → List AV
 | .agg cs => cs
 | x => [x]

section
variable {w : World} {ro : Nat → Prop} {σ : Heap} {β : Nat → Value} {N : Nat}

def cellOkIn (σ : Heap) : AV → Bool
 | .rv _ | .fn _ _ _ => true
 | .ptr id _ => match hget σ id with
  | some (.box _ _) => true
  | _ => false
 | .sl id => match hget σ id with
  | some (.row _ _ _ _) => true
  | _ => false
 | .eptr id _ _ => match hget σ id with
  | some (.row _ _ _ _) => true
  | _ => false
 | _ => false

theorem cellOkIn_one (hh : HRel w ro σ β N) {x : AV} {c : Value} (hx : cellOkIn σ x = true) (h : ARel w ro σ β N x c) : c.oneCell' = true := by
 cases h with
 | rv x c h => exact h.one
 | agg => simp [cellOkIn] at hx
 | tuple => simp [cellOkIn] at hx
 | ptr id off c hl hp =>
  simp only [cellOkIn] at hx
  split at hx
  ·rename_i t cs hg
   obtain ⟨b, _, rfl⟩ := hp t cs hg
   rfl
  ·cases hx
 | eptr id i off c hl hp =>
  simp only [cellOkIn] at hx
  split at hx
  ·rename_i z t n es hg
   obtain ⟨b, l, cp, _, rfl⟩ := hp z t n es hg
   rfl
  ·cases hx
 | sl id c hl hp =>
  simp only [cellOkIn] at hx
  split at hx
  ·rename_i z t n es hg
   rw [hp z t n es hg]
   have := hh.objs id _ hg
   cases this with
   | row _ _ _ xs h1 =>
    rcases h1.2 with ⟨⟨_, hv, _⟩, _⟩ | ⟨g, cap, cur, hv, _⟩ <;> rw [hv] <;> rfl
   | fro _ _ _ h1 => exact h1.one
  ·cases hx
 | fn => rfl
 | ref => simp [cellOkIn] at hx
 | bsl => simp [cellOkIn] at hx
 | top => simp [cellOkIn] at hx

theorem ARel.vcells {x : AV} {c : Value} (h : ARel w ro σ β N x c) (hall : (vcells x).all (cellOkIn σ) = true) (hh : HRel w ro σ β N) :
    c.cells.size = (vcells x).length ∧ (∀ j y, (Go.Av.vcells x)[j]? = some y → ARel w ro σ β N y (c.cells.getD j undef)) ∧ ∀ u ∈ c.cells.toList, u.oneCell' = true := by
  cases h with
  | agg cs c hs hc =>
    refine ⟨hs, hc, fun u hu => ?_⟩
    obtain ⟨j, hj, rfl⟩ := List.mem_iff_getElem.1 hu
    have hjs : j < cs.length := by simpa [Value.cells, hs] using hj
    have h1 := hc j cs[j] (List.getElem?_eq_getElem hjs)
    have h2 : cellOkIn σ cs[j] = true := by
      simp only [Go.Av.vcells, List.all_eq_true] at hall
      exact hall _ (List.getElem_mem hjs)
    have h3 := cellOkIn_one hh h2 h1
    have hjc : j < c.size := by omega
    simpa [Value.cells, hjc] using h3
  | rv x c hx =>
    have h1 : c.cells = #[c] := by have := hx.one; cases c <;> simp_all [Value.cells, Value.oneCell']
    refine ⟨by simp [h1, Go.Av.vcells], fun j y hj => ?_, fun u hu => ?_⟩
    · cases j with
      | zero => simp [Go.Av.vcells] at hj; subst hj; simpa [h1] using ARel.rv x c hx
      | succ j => simp [Go.Av.vcells] at hj
    · simp [h1] at hu; subst hu; exact hx.one
  | tuple cs c hs hc => simp [Go.Av.vcells, cellOkIn] at hall
  | top c => simp [Go.Av.vcells, cellOkIn] at hall
  | ref id c => simp [Go.Av.vcells, cellOkIn] at hall
  | bsl id n c => simp [Go.Av.vcells, cellOkIn] at hall
  | ptr id off c hl hp =>
    have hx : cellOkIn σ (.ptr id off) = true := by simpa [Go.Av.vcells] using hall
    have hone := cellOkIn_one hh hx (ARel.ptr (w := w) (ro := ro) id off c hl hp)
    have h1 : c.cells = #[c] := by cases c <;> simp_all [Value.cells, Value.oneCell']
    refine ⟨by simp [h1, Go.Av.vcells], fun j y hj => ?_, fun u hu => ?_⟩
    · cases j with
      | zero => simp [Go.Av.vcells] at hj; subst hj; simpa [h1] using ARel.ptr id off c hl hp
      | succ j => simp [Go.Av.vcells] at hj
    · simp [h1] at hu; subst hu; exact hone
  | eptr id i off c hl hp =>
    have hx : cellOkIn σ (.eptr id i off) = true := by simpa [Go.Av.vcells] using hall
    have hone := cellOkIn_one hh hx (ARel.eptr (w := w) (ro := ro) id i off c hl hp)
    have h1 : c.cells = #[c] := by cases c <;> simp_all [Value.cells, Value.oneCell']
    refine ⟨by simp [h1, Go.Av.vcells], fun j y hj => ?_, fun u hu => ?_⟩
    · cases j with
      | zero => simp [Go.Av.vcells] at hj; subst hj; simpa [h1] using ARel.eptr id i off c hl hp
      | succ j => simp [Go.Av.vcells] at hj
    · simp [h1] at hu; subst hu; exact hone
  | sl id c hl hp =>
    have hx : cellOkIn σ (.sl id) = true := by simpa [Go.Av.vcells] using hall
    have hone := cellOkIn_one hh hx (ARel.sl (w := w) (ro := ro) id c hl hp)
    have h1 : c.cells = #[c] := by cases c <;> simp_all [Value.cells, Value.oneCell']
    refine ⟨by simp [h1, Go.Av.vcells], fun j y hj => ?_, fun u hu => ?_⟩
    · cases j with
      | zero => simp [Go.Av.vcells] at hj; subst hj; simpa [h1] using ARel.sl id c hl hp
      | succ j => simp [Go.Av.vcells] at hj
    · simp [h1] at hu; subst hu; exact hone
  | fn f p q c d h1 h2 h3 h4 =>
    refine ⟨by simp [Value.cells, Go.Av.vcells], fun j y hj => ?_, fun u hu => ?_⟩
    · cases j with
      | zero => simp [Go.Av.vcells] at hj; subst hj; simpa [Value.cells] using ARel.fn f p q c d h1 h2 h3 h4
      | succ j => simp [Go.Av.vcells] at hj
    · simp [Value.cells] at hu; subst hu; rfl
end

section
variable {P : Program} {G : Glob} {o : Oper} {s : St}

theorem run_newVar (t : TypeId) (c : Value) (w : World) : (newVar t c).run P w = .ok ⟨w.heap.size, 0, none⟩ (w.alloc (.cells c.cells t)) := by
 simp [newVar, newRow]

theorem KStep.newBox {t : TypeId} {cs : List AV} (h : ∀ E a w β ro, RelAt E G s a w β ro → ∃ arr : Array Value, (execOp a.eval o).run P w = .ok (.value (.pointer (some ⟨w.heap.size, 0, none⟩))) (w.alloc (.cells arr t)) ∧
      arr.size = cs.length ∧ ∀ j x, cs[j]? = some x → ARel w ro s.heap β s.next x (arr.getD j undef)) (hb : s.base ≤ s.next) :
    KStep P G o s ({ s with heap := (s.next, .box t cs) :: s.heap, next := s.next + 1 }.put o.dst (.ptr s.next 0)) := by
  intro E a w ⟨β, ro, hr⟩ K Q hK
  obtain ⟨arr, hrun, hsz, hcells⟩ := h E a w β ro hr
  unfold Oper.wp
  rw [hrun]
  have hnone : hget s.heap s.next = none := by
    cases hg : hget s.heap s.next with
    | none => rfl
    | some p => have := hr.trans.new _ _ hg; omega
  have hnew : RelAt E G { s with heap := (s.next, .box t cs) :: s.heap, next := s.next + 1 } a (w.alloc (.cells arr t)) (upd β s.next (.pointer (some ⟨w.heap.size, 0, none⟩))) ro := by
    refine hr.new s.next hnone hb (Nat.le_refl _) _ _ rfl rfl rfl (by simp) (fun b hb => Go.RowKit.Below.heap_alloc w _ b hb) (fun b hb => by simp [blk] at hb; omega) rfl ?_
    refine .box t cs w.heap.size arr (upd_same _ _ _) (heap_alloc_new w _) hsz fun j x hj => ?_
    have hx := hcells j x hj
    have hro : ∀ b, ro b → (w.alloc (.cells arr t)).heap[b]? = w.heap[b]? := fun b hb => Go.RowKit.Below.heap_alloc w _ b (hr.heap.lt b hb)
    clear hj hcells
    generalize arr.getD j undef = c at hx
    induction hx with
    | rv x c hx => exact .rv x c (hx.keep hro fun _ h => h)
    | agg cs c hs _ ih => exact .agg cs c hs ih
    | tuple cs c hs _ ih => exact .tuple cs c hs ih
    | ptr k off c hl hp =>
      have hk : k ≠ s.next := by omega
      exact .ptr k off c (by omega) fun t cs hgk => by rw [upd_ne _ _ hk]; simp only [hget, if_neg (Ne.symm hk)] at hgk; exact hp t cs hgk
    | bsl k off c hl hp =>
      have hk : k ≠ s.next := by omega
      exact .bsl k off c (by omega) fun t cs hgk => by rw [upd_ne _ _ hk]; simp only [hget, if_neg (Ne.symm hk)] at hgk; exact hp t cs hgk
    | eptr k i off c hl hp =>
      have hk : k ≠ s.next := by omega
      exact .eptr k i off c (by omega) fun z t n es hgk => by rw [upd_ne _ _ hk]; simp only [hget, if_neg (Ne.symm hk)] at hgk; exact hp z t n es hgk
    | sl k c hl hp =>
      have hk : k ≠ s.next := by omega
      exact .sl k c (by omega) fun z t n es hgk => by rw [upd_ne _ _ hk]; simp only [hget, if_neg (Ne.symm hk)] at hgk; exact hp z t n es hgk
    | fn f p q c d h1 h2 _ _ ih1 ih2 => exact .fn f p q c d h1 h2 ih1 ih2
    | ref k c hl hp =>
      have hk : k ≠ s.next := by omega
      exact .ref k c (by omega) fun Φ hgk => by rw [upd_ne _ _ hk]; simp only [hget, if_neg (Ne.symm hk)] at hgk; exact hp Φ hgk
    | top c => exact .top c
  refine hK _ _ ⟨_, ro, hnew.put o.dst _ _ ?_⟩ fun b hb => Go.RowKit.Below.heap_alloc w _ b hb
  refine .ptr _ _ _ (Nat.lt_succ_self _) fun t' cs' hg => ⟨w.heap.size, upd_same _ _ _, rfl⟩
theorem RK_box (t : TypeId) (x : Operand) (ho : o.op = .box t x) (hb : s.base ≤ s.next) (hall : (vcells (aval G s x)).all (cellOkIn s.heap) = true) :
    KStep P G o s ({ s with heap := (s.next, .box t (vcells (aval G s x))) :: s.heap, next := s.next + 1 }.put o.dst (.ptr s.next 0)) :=
  .newBox (fun _ a w β ro hr => by
    obtain ⟨h1, h2, _⟩ := (hr.eval x).vcells hall hr.heap
    exact ⟨(a.eval x).cells, by simp [execOp, ho, Instr.box, run_newVar], h1, h2⟩) hb
theorem R_box (t : TypeId) (x : Operand) (ho : o.op = .box t x) (hb : s.base ≤ s.next) (hall : (vcells (aval G s x)).all (cellOkIn s.heap) = true) :
    OpStep P G o s ({ s with heap := (s.next, .box t (vcells (aval G s x))) :: s.heap, next := s.next + 1 }.put o.dst (.ptr s.next 0)) := (RK_box t x ho hb hall).op

def zeroCells (P : Program) (t : TypeId) : Option (List Value) :=
 match P.info? t with
 | some i => match i.zero with
  | some z => some z.cells.toList
  | none => none
 | none => none

theorem run_zero {t : TypeId} {zs : List Value} (h : zeroCells P t = some zs) (w : World) : ∃ z : Value, (zeroValue t).run P w = .ok z w ∧ z.cells = zs.toArray ∧ ∃ i, P.info? t = some i ∧ i.zero = some z := by
 unfold zeroCells at h
 cases hi : P.info? t with
 | none => simp [hi] at h
 | some i =>
  cases hz : i.zero with
  | none => simp [hi, hz] at h
  | some z =>
   simp [hi, hz] at h
   exact ⟨z, by simp [zeroValue, typeInfo, hi, hz], by rw [← h], i, rfl, hz⟩

theorem RK_alloc (t : TypeId) (ho : o.op = .alloc t) (hb : s.base ≤ s.next) {zs : List Value} (hz : zeroCells P t = some zs) (hall : zs.all Value.oneCell' = true) :
    KStep P G o s ({ s with heap := (s.next, .box t (zs.map fun z => .rv (.v z))) :: s.heap, next := s.next + 1 }.put o.dst (.ptr s.next 0)) :=
  .newBox (fun _ a w β ro hr => by
    obtain ⟨z, hrun, hzc, _⟩ := run_zero hz w
    refine ⟨z.cells, by simp [execOp, ho, Instr.alloc, hrun, run_newVar], by simp [hzc], fun j x hj => ?_⟩
    rw [List.getElem?_map] at hj
    cases hzj : zs[j]? with
    | none => simp [hzj] at hj
    | some y =>
      simp [hzj] at hj
      subst hj
      have : y.oneCell' = true := by
        rw [List.all_eq_true] at hall
        exact hall y (List.mem_of_getElem? hzj)
      rw [hzc]
      simpa [hzj] using ARel.rv (w := w) (ro := ro) (σ := s.heap) (β := β) (N := s.next) _ _ (.v y this)) hb
theorem R_alloc (t : TypeId) (ho : o.op = .alloc t) (hb : s.base ≤ s.next) {zs : List Value} (hz : zeroCells P t = some zs) (hall : zs.all Value.oneCell' = true) :
    OpStep P G o s ({ s with heap := (s.next, .box t (zs.map fun z => .rv (.v z))) :: s.heap, next := s.next + 1 }.put o.dst (.ptr s.next 0)) := (RK_alloc t ho hb hz hall).op
end
end Go.Av
namespace Go.Av
open Go

section
variable {P : Program} {G : Glob} {o : Oper} {s : St}

theorem hset_box_keep {w w' : World} {ro : Nat → Prop} {σ : Heap} {β : Nat → Value} {N id : Nat} {t : TypeId} {cs cs' : List AV} (hid : hget σ id = some (.box t cs)) {x : AV} {c : Value}
    (h : ARel w ro σ β N x c) (hro : ∀ b, ro b → w'.heap[b]? = w.heap[b]?) : ARel w' ro (hset σ id (.box t cs')) β N x c := by
  refine h.keep hro (fun _ h => h) (Nat.le_refl _) (fun k t1 c1 hk => ?_) (fun k z t1 n es hk => ?_) (fun k Φ hk => ?_)
  · rw [hget_hset] at hk
    by_cases hki : id = k
    · subst hki; exact ⟨rfl, t, cs, hid⟩
    · rw [if_neg hki] at hk; exact ⟨rfl, t1, c1, hk⟩
  · rw [hget_hset] at hk
    by_cases hki : id = k
    · subst hki; rw [if_pos rfl] at hk; cases hk
    · rw [if_neg hki] at hk; exact ⟨rfl, z, t1, es, hk⟩
  · rw [hget_hset] at hk
    by_cases hki : id = k
    · subst hki; rw [if_pos rfl] at hk; cases hk
    · rw [if_neg hki] at hk; exact ⟨rfl, Φ, hk⟩

def splice {α : Type} (cs : List α) (off : Nat) (vs : List α) : List α := cs.take off ++ (vs ++ cs.drop (off + vs.length))

theorem splice_length {α : Type} (cs : List α) (off : Nat) (vs : List α) (h : off + vs.length ≤ cs.length) : (splice cs off vs).length = cs.length := by
 simp [splice]; omega

theorem splice_rel {α β : Type} (R : α → β → Prop) (d : β) {cs vs : List α} {xs ys : List β} {off : Nat} (hl : cs.length ≤ xs.length) (hv : vs.length = ys.length) (hoff : off + vs.length ≤ cs.length)
    (h1 : ∀ j x, cs[j]? = some x → R x (xs.getD j d)) (h2 : ∀ j x, vs[j]? = some x → R x (ys.getD j d)) : ∀ j x, (splice cs off vs)[j]? = some x → R x ((splice xs off ys).getD j d) := by
  intro j x hj
  unfold splice at *
  by_cases ha : j < off
  · rw [List.getElem?_append_left (by simp; omega), List.getElem?_take, if_pos ha] at hj
    have := h1 j x hj
    rw [List.getD, List.getElem?_append_left (by simp; omega), List.getElem?_take, if_pos ha]
    exact this
  · have e1 : (cs.take off).length = off := by simp; omega
    have e2 : (xs.take off).length = off := by simp; omega
    rw [List.getElem?_append_right (by omega), e1] at hj
    rw [List.getD, List.getElem?_append_right (by omega), e2]
    by_cases hb : j - off < vs.length
    · rw [List.getElem?_append_left hb] at hj
      rw [List.getElem?_append_left (by omega)]
      exact h2 _ _ hj
    · rw [List.getElem?_append_right (by omega), List.getElem?_drop] at hj
      rw [List.getElem?_append_right (by omega), List.getElem?_drop]
      have e3 : off + vs.length + (j - off - vs.length) = j := by omega
      have e4 : off + ys.length + (j - off - ys.length) = j := by omega
      rw [e3] at hj
      rw [e4]
      exact h1 j x hj

theorem run_storeAt (t : TypeId) (b off : Nat) (c : Value) (w : World) (bt : TypeId) (arr : Array Value) (hg : w.heap[b]? = some (.cells arr bt (0, 0))) (hsz : (P.info? t).map (·.size) = some c.cells.size)
    (hfit : off + c.cells.size ≤ arr.size) (h1 : ∀ u ∈ c.cells.toList, u.oneCell' = true) :
    (Instr.storeAt t (.pointer (some ⟨b, off, none⟩)) c).run P w = .ok () (w.setRow b (splice arr.toList off c.cells.toList).toArray) := by
  have hst := run_storeCells_at P b off bt c.cells.toList 0 arr w hg (by simpa using hfit) h1
  cases hi : P.info? t with
  | none => simp [hi] at hsz
  | some i =>
    have hs : i.size = c.cells.size := by simpa [hi] using hsz
    simp only [Nat.add_zero, List.append_assoc] at hst
    simp only [Instr.storeAt, Instr.sureAddr, storeVar, sizeOf, typeInfo, Sem.run_bind, Sem.run_pure, Result.andThen_ok, splice]
    simp [hi, hs, hst]

theorem R_store (t : TypeId) (p x : Operand) (ho : o.op = .store t p x) {id off : Nat} (hp : aval G s p = .ptr id off) {bt : TypeId} {cs : List AV} (hid : hget s.heap id = some (.box bt cs))
    {vs : List AV} (hv : vcells (aval G s x) = vs) (hall : vs.all (cellOkIn s.heap) = true) (hsz : (P.info? t).map (·.size) = some vs.length) (hfit : off + vs.length ≤ cs.length) :
    OpStep P G o s ({ s with heap := hset s.heap id (.box bt (splice cs off vs)) }.put o.dst .top) := by
  intro E a w ⟨β, ro, hr⟩ K Q hK
  subst hv
  obtain ⟨h1, h2, h3⟩ := (hr.eval x).vcells hall hr.heap
  have hpe := hr.eval p
  rw [hp] at hpe
  have hO := hr.heap.objs id _ hid
  cases hO with
  | box _ _ b arr hb hg hsz' hcells =>
    generalize hpv : a.eval p = pv at hpe
    cases hpe with
    | ptr _ _ c hl hc =>
      obtain ⟨b', hb', rfl⟩ := hc _ _ hid
      rw [hb] at hb'
      simp only [Value.pointer.injEq, Option.some.injEq, Addr.mk.injEq, and_true] at hb'
      subst hb'
      have hrun := run_storeAt (P := P) t b off (a.eval x) w bt arr hg (by rw [hsz, h1]) (by omega) h3
      unfold Oper.wp
      simp only [execOp, ho, hpv, Sem.run_bind, hrun, Result.andThen_ok, Sem.run_pure]
      have hother : ∀ k, k < w.heap.size → blk (β id) ≠ some k → (w.setRow b (splice arr.toList off (a.eval x).cells.toList).toArray).heap[k]? = w.heap[k]? := fun k _ hk =>
        setRow_other w b k _ (fun e => hk (by rw [hb, e]; rfl))
      have hro : ∀ k, ro k → (w.setRow b (splice arr.toList off (a.eval x).cells.toList).toArray).heap[k]? = w.heap[k]? := fun k hk =>
        hother k (hr.heap.lt k hk) fun hbk => hr.heap.disj k hk ⟨id, _, hid, rfl, hbk⟩
      refine hK _ _ ⟨β, ro, (hr.write (w' := w.setRow b (splice arr.toList off (a.eval x).cells.toList).toArray) id _ (.box bt (splice cs off (vcells (aval G s x)))) hid rfl rfl (.inl ⟨_, _, _, rfl, rfl⟩) rfl rfl rfl (by simp) hother ?_).put o.dst _ _ (.top _)⟩
      refine .box bt _ b _ hb (setRow_heap w b arr _ bt (0, 0) hg) ?_ fun j y hj => ?_
      · rw [List.size_toArray, splice_length _ _ _ (by simp only [Array.length_toList]; omega), splice_length _ _ _ hfit, Array.length_toList, hsz']
      · have hs := splice_rel (ARel w ro s.heap β s.next) undef (cs := cs) (vs := vcells (aval G s x)) (xs := arr.toList) (ys := (a.eval x).cells.toList) (off := off) (by simp only [Array.length_toList]; omega) (by simp only [Array.length_toList]; omega) hfit
          (fun j x hj => by have := hcells j x hj; simpa [Array.getD_eq_getD_getElem?, List.getD] using this)
          (fun j x hj => by have := h2 j x hj; simpa [Array.getD_eq_getD_getElem?, List.getD] using this) j y hj
        have hs' := hset_box_keep (cs' := splice cs off (vcells (aval G s x))) hid hs hro
        simpa [Array.getD_eq_getD_getElem?, List.getD] using hs'

def rvs : List AV → Option (List RV)
 | [] => some []
 | .rv x :: r => match rvs r with
  | some l => some (x :: l)
  | none => none
 | _ :: _ => none

theorem rvs_map : ∀ {vs : List AV} {l : List RV}, rvs vs = some l → vs = l.map .rv
 | [], l, h => by simp [rvs] at h; subst h; rfl
 | .rv x :: r, l, h => by
  simp only [rvs] at h
  cases hr : rvs r with
  | none => simp [hr] at h
  | some l' =>
   simp [hr] at h
   subst h
   simp [rvs_map hr]
 | .agg _ :: _, _, h => by simp [rvs] at h
 | .tuple _ :: _, _, h => by simp [rvs] at h
 | .ptr _ _ :: _, _, h => by simp [rvs] at h
 | .bsl _ _ :: _, _, h => by simp [rvs] at h
 | .eptr _ _ _ :: _, _, h => by simp [rvs] at h
 | .sl _ :: _, _, h => by simp [rvs] at h
 | .fn _ _ _ :: _, _, h => by simp [rvs] at h
 | .ref _ :: _, _, h => by simp [rvs] at h
 | .top :: _, _, h => by simp [rvs] at h

theorem flatten_set {α : Type} {n : Nat} : ∀ {es : List (List α)}, (∀ e ∈ es, e.length = n) → ∀ {i : Nat} {e e' : List α}, es[i]? = some e → e'.length = n → (es.set i e').flatten = es.flatten.take (i * n) ++ (e' ++ es.flatten.drop (i * n + n))
 | [], _, i, e, e', h, _ => by simp at h
 | x :: r, hn, i, e, e', h, he => by
  have hx : x.length = n := hn x (by simp)
  cases i with
  | zero => simp [hx]
  | succ i =>
   simp at h
   have ih := flatten_set (es := r) (fun e he => hn e (by simp [he])) h he
   simp only [List.set_cons_succ, List.flatten_cons, ih]
   have e1 : (i + 1) * n = x.length + i * n := by rw [Nat.succ_mul]; omega
   have e2 : (i + 1) * n + n = x.length + (i * n + n) := by rw [Nat.succ_mul]; omega
   have e3 : x.length + (i * n + n) - x.length = i * n + n := by omega
   have e4 : x.length + i * n - x.length = i * n := by omega
   rw [e2, e1, List.take_append, List.drop_append, e3, e4, List.take_of_length_le (l := x) (by omega), List.drop_of_length_le (l := x) (by omega)]
   simp

theorem splice_splice {α : Type} (l : List α) (p n k : Nat) (vs : List α) (e : List α) (he : e.length = n) (hl : ∀ j, j < n → l[p + j]? = e[j]?) (hk : k + vs.length ≤ n) (hp : p + n ≤ l.length) :
    splice l (p + k) vs = l.take p ++ (splice e k vs ++ l.drop (p + n)) := by
  apply List.ext_getElem?
  intro j
  have hs : (splice e k vs).length = n := by rw [splice_length _ _ _ (by omega), he]
  unfold splice at *
  by_cases h1 : j < p
  · rw [List.getElem?_append_left (by simp; omega), List.getElem?_take, if_pos (by omega), List.getElem?_append_left (by simp; omega), List.getElem?_take, if_pos h1]
  · have e1 : (l.take p).length = p := by simp; omega
    have e2 : (l.take (p + k)).length = p + k := by simp; omega
    rw [List.getElem?_append_right (l₁ := l.take p) (by omega), e1]
    by_cases h2 : j < p + k
    · rw [List.getElem?_append_left (by omega), List.getElem?_take, if_pos h2, List.getElem?_append_left (by omega), List.getElem?_append_left (by simp; omega), List.getElem?_take, if_pos (by omega), ← hl _ (by omega)]
      congr 1; omega
    · rw [List.getElem?_append_right (by omega), e2]
      have e3 : (e.take k).length = k := by simp; omega
      by_cases h3 : j < p + k + vs.length
      · rw [List.getElem?_append_left (by omega), List.getElem?_append_left (by omega), List.getElem?_append_right (by omega), e3, List.getElem?_append_left (by omega)]
        congr 1; omega
      · rw [List.getElem?_append_right (by omega), List.getElem?_drop]
        by_cases h4 : j < p + n
        · rw [List.getElem?_append_left (by omega), List.getElem?_append_right (by omega), e3, List.getElem?_append_right (by omega), List.getElem?_drop, ← hl _ (by omega)]
          congr 1; omega
        · rw [List.getElem?_append_right (by omega), hs, List.getElem?_drop]
          congr 1; omega

theorem take_splice {α : Type} (l : List α) (off m : Nat) (ys : List α) (h : off + ys.length ≤ m) (hm : m ≤ l.length) : (splice l off ys).take m = splice (l.take m) off ys := by
 have e1 : min m off = off := by omega
 have e2 : min off m = off := by omega
 have e3 : min off l.length = off := by omega
 have e4 : List.take (m - off) ys = ys := List.take_of_length_le (by omega)
 have e5 : m - off - ys.length = m - (off + ys.length) := by omega
 simp only [splice, List.take_append, List.take_take, List.length_take, List.drop_take, e1, e2, e3, e4, e5]

theorem R_store_row (t : TypeId) (p x : Operand) (ho : o.op = .store t p x) {id i off : Nat} (hp : aval G s p = .eptr id i off) {bt : TypeId} {n : Nat} {es : List (List RV)} (hid : hget s.heap id = some (.row false bt n es))
    {e : List RV} (hei : es[i]? = some e) {vs : List RV} (hv : rvs (vcells (aval G s x)) = some vs) (hsz : (P.info? t).map (·.size) = some vs.length) (hfit : off + vs.length ≤ n) :
    OpStep P G o s ({ s with heap := hset s.heap id (.row false bt n (es.set i (splice e off vs))) }.put o.dst .top) := by
  intro E a w ⟨β, ro, hr⟩ K Q hK
  have hvm := rvs_map hv
  have hall : (vcells (aval G s x)).all (cellOkIn s.heap) = true := by rw [hvm]; simp [List.all_eq_true, cellOkIn]
  obtain ⟨h1, h2, h3⟩ := (hr.eval x).vcells hall hr.heap
  rw [hvm] at h1 h2
  rw [List.length_map] at h1
  have hpe := hr.eval p
  rw [hp] at hpe
  have hO := hr.heap.objs id _ hid
  cases hO with
  | row _ _ _ xs hown hn hcells =>
    generalize hpv : a.eval p = pv at hpe
    cases hpe with
    | eptr _ _ _ c hl hc =>
      obtain ⟨b, l, cp, hb, rfl⟩ := hc _ _ _ _ hid
      have hown' := hown
      rw [hb] at hown
      obtain ⟨hxlen, hrest⟩ := hown
      rcases hrest with ⟨⟨_, h, _⟩, hz⟩ | ⟨g, cap, cur, hvv, hbase, hg, hle, hcm, hcs, htake⟩
      · have := (List.getElem?_eq_some_iff.1 hei).1; omega
      · simp only [Value.slice.injEq, Option.some.injEq, Addr.mk.injEq, and_true] at hvv
        obtain ⟨rfl, rfl, rfl⟩ := hvv
        have hel : e.length = n := hn e (List.mem_of_getElem? hei)
        have hil : i < es.length := (List.getElem?_eq_some_iff.1 hei).1
        have hin : i * n + n ≤ es.length * n := by rw [← Nat.succ_mul]; exact Nat.mul_le_mul_right n hil
        have hcapn : es.length * n ≤ cp * n := Nat.mul_le_mul_right n hle
        have hrun := run_storeAt (P := P) t b (i * n + off) (a.eval x) w bt cur hg (by rw [hsz, h1]) (by omega) h3
        unfold Oper.wp
        simp only [execOp, ho, hpv, Sem.run_bind, hrun, Result.andThen_ok, Sem.run_pure]
        have hother : ∀ k, k < w.heap.size → blk (β id) ≠ some k → (w.setRow b (splice cur.toList (i * n + off) (a.eval x).cells.toList).toArray).heap[k]? = w.heap[k]? := fun k _ hk =>
          setRow_other w b k _ (fun e => hk (by rw [hb, e]; simp [blk, Nat.ne_of_gt hbase]))
        have hro : ∀ k, ro k → (w.setRow b (splice cur.toList (i * n + off) (a.eval x).cells.toList).toArray).heap[k]? = w.heap[k]? := fun k hk =>
          hother k (hr.heap.lt k hk) fun hbk => hr.heap.disj k hk ⟨id, _, hid, rfl, hbk⟩
        have hsl : (splice e off vs).length = n := by rw [splice_length _ _ _ (by omega), hel]
        refine hK _ _ ⟨β, ro, (hr.write (w' := w.setRow b (splice cur.toList (i * n + off) (a.eval x).cells.toList).toArray) id _ (.row false bt n (es.set i (splice e off vs))) hid rfl rfl (.inr (.inl ⟨_, _, _, _, rfl, rfl⟩)) rfl rfl rfl (by simp) hother ?_).put o.dst _ _ (.top _)⟩
        have hcl : (a.eval x).cells.toList.length = vs.length := by simpa using h1
        refine .row bt n _ (splice xs (i * n + off) (a.eval x).cells.toList) ?_ (fun e' he' => ?_) (fun j y hj => ?_)
        · rw [hb, List.length_set]
          refine ⟨by rw [splice_length _ _ _ (by omega)]; exact hxlen, .inr ⟨b, cp, _, rfl, hbase, setRow_heap w b cur _ bt (0, 0) hg, hle, hcm, ?_, ?_⟩⟩
          · rw [List.size_toArray, splice_length _ _ _ (by simp; omega)]; simpa using hcs
          · show List.take (es.length * n) (splice cur.toList (i * n + off) (a.eval x).cells.toList) = _
            rw [take_splice _ _ _ _ (by omega) (by simp; omega), htake]
        · rcases List.mem_or_eq_of_mem_set he' with h | h
          · exact hn e' h
          · rw [h]; exact hsl
        · rw [flatten_set hn hei hsl, ← splice_splice es.flatten (i * n) n off vs e hel (fun j hj => flatten_at hn hei j hj) hfit (by rw [length_flatten_of hn]; exact hin)] at hj
          have hs := splice_rel (RRel w ro) undef (cs := es.flatten) (vs := vs) (xs := xs) (ys := (a.eval x).cells.toList) (off := i * n + off) (by rw [length_flatten_of hn]; omega) (by omega) (by rw [length_flatten_of hn]; omega)
            (fun j x hj => hcells j x hj)
            (fun j y hj => by
              have := h2 j (.rv y) (by simp [hj])
              cases this with
              | rv _ _ h => simpa [Array.getD_eq_getD_getElem?, List.getD] using h) j y hj
          exact hs.keep hro fun _ h => h
end
end Go.Av
namespace Go.Av
open Go

def beqS (a b : ByteArray) : Bool := a.data.toList == b.data.toList
theorem beqS_eq (a b : ByteArray) : beqS a b = decide (a = b) := by
 unfold beqS
 obtain ⟨⟨x⟩⟩ := a
 obtain ⟨⟨y⟩⟩ := b
 rw [Bool.eq_iff_iff]
 simp
theorem beqS_list (a b : ByteArray) : (a.toList == b.toList) = beqS a b := by rw [ByteArray.toList_eq, ByteArray.toList_eq]; rfl
@[simp] theorem beqS_iff {a b : ByteArray} : beqS a b = true ↔ a = b := by rw [beqS_eq]; simp
@[simp] theorem beqS_niff {a b : ByteArray} : beqS a b = false ↔ a ≠ b := by rw [beqS_eq]; simp
@[simp] theorem beqS_self (a : ByteArray) : beqS a a = true := by simp

def ltS (a b : ByteArray) : Bool := Op.bytesLess a.data.toList b.data.toList
theorem ltS_list (a b : ByteArray) : Op.bytesLess a.toList b.toList = ltS a b := by rw [ByteArray.toList_eq, ByteArray.toList_eq]; rfl

def cmpV (op : BinOp) (a b : Int) : Option Value :=
 match op with
 | .eql => some (.bool (a == b))
 | .neq => some (.bool (a != b))
 | .lss => some (.bool (decide (a < b)))
 | .leq => some (.bool (decide (a ≤ b)))
 | .gtr => some (.bool (decide (a > b)))
 | .geq => some (.bool (decide (a ≥ b)))
 | _ => none

def binV (op : BinOp) : Value → Value → Option Value
 | .int k a, .int k' b =>
  match op with
  | .shl => if b < 0 then none else some (.int k (k.wrap (a * 2 ^ (min b.toNat k.bits))))
  | .shr => if b < 0 then none else some (.int k (a.fdiv (2 ^ (min b.toNat k.bits))))
  | op => if k = k' then match op with
   | .add => some (.int k (k.wrap (a + b)))
   | .sub => some (.int k (k.wrap (a - b)))
   | .mul => some (.int k (k.wrap (a * b)))
   | .quo => if b = 0 then none else some (.int k (k.wrap (a.tdiv b)))
   | .rem => if b = 0 then none else some (.int k (a.tmod b))
   | op => cmpV op a b
   else none
 | .string a, .string b =>
  match op with
  | .add => if ((a.size + b.size : Nat) : Int) > IntKind.i64.max then none else some (.string (a ++ b))
  | .eql => some (.bool (beqS a b))
  | .neq => some (.bool (!beqS a b))
  | .lss => some (.bool (ltS a b))
  | .leq => some (.bool (ltS a b || beqS a b))
  | .gtr => some (.bool (!(ltS a b || beqS a b)))
  | .geq => some (.bool (!ltS a b))
  | _ => none
 | _, _ => none

theorem binV_run {P : Program} {op : BinOp} {x y c : Value} (h : binV op x y = some c) (t : TypeId) (p q : Operand) (w : World) :
    (eqGuard op t p q x y).run P w = .ok () w ∧ (binOp op t x y).run P w = .ok c w ∧ c.oneCell' = true := by
  cases x with
  | int k a =>
    cases y with
    | int k' b =>
      simp only [binV] at h
      refine ⟨by rw [eqGuard_at_int]; rfl, ?_⟩
      cases op
      all_goals first
        | (simp only at h
           split at h
           · cases h
           · rename_i hn
             simp only [Option.some.injEq] at h
             subst h
             refine ⟨?_, rfl⟩
             simp [binOp, Op.shift, hn]; done)
        | (simp only at h
           split at h
           · rename_i hk
             subst hk
             first
               | (simp only [Option.some.injEq, cmpV] at h
                  subst h
                  exact ⟨by simp [binOp, Op.intArith, Op.intCmp], rfl⟩)
               | (split at h
                  · cases h
                  · rename_i hz
                    simp only [Option.some.injEq] at h
                    subst h
                    exact ⟨by simp [binOp, Op.intDiv, hz], rfl⟩)
               | (simp [cmpV] at h; done)
           · cases h)
    | _ => simp [binV] at h
  | string a =>
    cases y with
    | string b =>
      simp only [binV] at h
      refine ⟨by rw [eqGuard_at_string]; rfl, ?_⟩
      cases op <;> simp only at h
      all_goals first
        | cases h; done
        | (split at h
           · cases h
           · rename_i hn
             simp only [Option.some.injEq] at h
             subst h
             exact ⟨by simp only [binOp_string_add, Op.stringOp, hn, if_false]; rfl, rfl⟩)
        | (simp only [Option.some.injEq] at h
           subst h
           exact ⟨by simp only [binOp, Op.stringOp, beqS_list, ltS_list]; rfl, rfl⟩)
    | _ => simp [binV] at h
  | _ => simp [binV] at h

section
variable {P : Program} {G : Glob} {o : Oper} {s : St}

theorem ARel.val {w : World} {ro : Nat → Prop} {σ : Heap} {β : Nat → Value} {N : Nat} {x c : Value} (h : ARel w ro σ β N (.rv (.v x)) c) : c = x := by
 cases h with
 | rv _ _ h => cases h; rfl

theorem RelAt.evalV {E : Entry} {a : Act} {w : World} {β : Nat → Value} {ro : Nat → Prop} (h : RelAt E G s a w β ro) {x : Operand} {v : Value} (hx : aval G s x = .rv (.v v)) : a.eval x = v :=
 ARel.val (hx ▸ h.eval x)

theorem ARel.ofV {w : World} {ro : Nat → Prop} {σ : Heap} {β : Nat → Value} {N : Nat} {c : Value} (h : c.oneCell' = true) : ARel w ro σ β N (.rv (.v c)) c := .rv _ _ (.v _ h)

theorem R_bin (op : BinOp) (tx ty : TypeId) (x y : Operand) (ho : o.op = .binOp op tx x y ty) {u v c : Value} (hx : aval G s x = .rv (.v u)) (hy : aval G s y = .rv (.v v)) (hc : binV op u v = some c) :
    VStep P G o s (.rv (.v c)) :=
  fun _ a w β ro hr => by
    obtain ⟨h1, h2, h3⟩ := binV_run (P := P) hc tx x y w
    exact ⟨c, by simp [execOp, ho, hr.evalV hx, hr.evalV hy, h1, h2], .ofV h3⟩

theorem R_eql_bool (tx ty : TypeId) (x y : Operand) (ho : o.op = .binOp .eql tx x y ty) (ht : P.underlying tx = some .bool) {u v : Bool} (hx : aval G s x = .rv (.v (.bool u))) (hy : aval G s y = .rv (.v (.bool v))) :
    VStep P G o s (.rv (.v (.bool (u == v)))) :=
  fun _ a w β ro hr => ⟨.bool (u == v), by simp [execOp, ho, hr.evalV hx, hr.evalV hy, eqGuard_at_bool, run_eql_bool w tx u v ht], .ofV rfl⟩
theorem R_neq_bool (tx ty : TypeId) (x y : Operand) (ho : o.op = .binOp .neq tx x y ty) (ht : P.underlying tx = some .bool) {u v : Bool} (hx : aval G s x = .rv (.v (.bool u))) (hy : aval G s y = .rv (.v (.bool v))) :
    VStep P G o s (.rv (.v (.bool (!(u == v))))) :=
  fun _ a w β ro hr => ⟨.bool (!(u == v)), by simp [execOp, ho, hr.evalV hx, hr.evalV hy, eqGuard_at_bool, run_neq_bool w tx u v ht], .ofV rfl⟩

def eqV : Value → Value → Option Bool
 | .int k a, .int k' b => if k = k' then some (a == b) else none
 | .bool a, .bool b => some (a == b)
 | .string a, .string b => some (beqS a b)
 | _, _ => none
def fitT (P : Program) (t : TypeId) : Value → Bool
 | .int k _ => match P.underlying t with
  | some (.int k') => decide (k = k')
  | _ => false
 | .bool _ => match P.underlying t with
  | some .bool => true
  | _ => false
 | .string _ => match P.underlying t with
  | some .string => true
  | _ => false
 | _ => false
def asField (e : TypeId) (c i : Nat) : Field := { (default : Field) with name := "e", type := e, offset := i * c }
theorem eqItems_fields (d : Nat) (e : TypeId) (c : Nat) (X Y : Array Value) : ∀ (is : List Nat), Op.eqFields d X Y (is.map (asField e c)) = Op.eqItems d e c X Y is
 | [] => rfl
 | i :: is => by
  simp only [List.map_cons, Op.eqFields, Op.eqItems, eqItems_fields d e c X Y is]
  rfl
def eqStruct (P : Program) (t : TypeId) : Option (List Field) :=
 match P.underlying t with
 | some (.struct fs) => if P.stoodInHeld t || P.eqGuardType P.depth t then none else some fs.toList
 | some (.array n e) => match P.info? e with
  | some _ => if P.eqGuardType P.depth t then none else some ((List.range n).map (asField e (P.cellsOf e)))
  | none => none
 | _ => none

theorem eqStruct_eq {P : Program} {t : TypeId} {gs : List Field} (h : eqStruct P t = some gs) (D : Nat) (p q : Array Value) (w : World) :
    (Op.equalIn (D + 1) t (.agg p) (.agg q)).run P w = (Op.eqFields D p q gs).run P w ∧ (isAgg t).run P w = .ok true w := by
  unfold eqStruct at h
  split at h
  · rename_i fa hu
    split at h
    · cases h
    · rename_i hc
      simp only [Bool.or_eq_true, not_or, Bool.not_eq_true] at hc
      simp only [Option.some.injEq] at h
      subst h
      have hfo : P.fieldsOf t = fa := by simp [Program.fieldsOf, hu]
      exact ⟨by rw [run_equalIn_struct w D t p q (by rw [hfo]; exact hu) hc.1, hfo], by simp [isAgg, run_underlying hu]⟩
  · rename_i n e hu
    split at h
    · rename_i inf hinf
      split at h
      · cases h
      · simp only [Option.some.injEq] at h
        subst h
        exact ⟨by rw [run_equalIn_array w D p q hu hinf, ← eqItems_fields], by simp [isAgg, run_underlying hu]⟩
    · cases h
  · cases h
def eqDeep (P : Program) : Nat → Nat → List Field → List Value → List Value → Option Bool
  | 0, _, _, _, _ => none
  | _ + 1, _, [], _, _ => some true
  | d + 1, k, f :: fs, xs, ys =>
    if f.name = "_" || f.offset != k then none
    else match eqStruct P f.type with
      | some gs => match P.info? f.type with
        | some inf => match eqDeep P d 0 gs (xs.take inf.size) (ys.take inf.size), eqDeep P d (k + inf.size) fs (xs.drop inf.size) (ys.drop inf.size) with
          | some a, some b => some (a && b)
          | _, _ => none
        | none => none
      | none => match xs, ys with
        | x :: xs, y :: ys => if fitT P f.type x then match eqV x y, eqDeep P d (k + 1) fs xs ys with
            | some a, some b => some (a && b)
            | _, _ => none
          else none
        | _, _ => none
def eqFlat (P : Program) (k : Nat) (fs : List Field) (xs ys : List Value) : Option Bool := eqDeep P 64 k fs xs ys

theorem eqV_run {t : TypeId} {x y : Value} {b : Bool} (h : eqV x y = some b) (hf : fitT P t x = true) (d : Nat) (w : World) : (Op.equalIn (d + 1) t x y).run P w = .ok b w ∧ x.oneCell' = true ∧ y.oneCell' = true ∧ (isAgg t).run P w = .ok false w := by
 cases x with
 | int k a =>
  cases y with
  | int k' b' =>
   simp only [eqV] at h
   split at h
   ·rename_i hk
    subst hk
    simp only [Option.some.injEq] at h
    subst h
    simp only [fitT] at hf
    split at hf
    ·rename_i k2 hu
     exact ⟨run_equalIn_int w d t k k2 a b' hu, rfl, rfl, by simp [isAgg, run_underlying hu]⟩
    ·cases hf
   ·cases h
  | _ => simp [eqV] at h
 | bool a =>
  cases y with
  | bool b' =>
   simp only [eqV, Option.some.injEq] at h
   subst h
   simp only [fitT] at hf
   split at hf
   ·rename_i hu
    exact ⟨run_equalIn_bool w d t a b' hu, rfl, rfl, by simp [isAgg, run_underlying hu]⟩
   ·cases hf
  | _ => simp [eqV] at h
 | string a =>
  cases y with
  | string b' =>
   simp only [eqV, Option.some.injEq] at h
   subst h
   simp only [fitT] at hf
   split at hf
   ·rename_i hu
    refine ⟨?_, rfl, rfl, by simp [isAgg, run_underlying hu]⟩
    rw [run_equalIn_string w d t a b' hu, beqS_list]
   ·cases hf
  | _ => simp [eqV] at h
 | _ => simp [eqV] at h

theorem cut_cells {xs : List Value} {X : Array Value} {k n : Nat} (hX : ∀ j x, xs[j]? = some x → X[k + j]? = some x) : ∀ j x, (xs.take n)[j]? = some x → (X.extract k (k + n))[0 + j]? = some x := by
 intro j x hj
 rw [List.getElem?_take] at hj
 split at hj
 ·rename_i hjn
  have := hX j x hj
  rw [Nat.zero_add, Array.getElem?_extract]
  have hlt : k + j < X.size := (Array.getElem?_eq_some_iff.1 this).1
  rw [if_pos (by omega)]
  exact this
 ·cases hj
theorem eqDeep_run : ∀ (d : Nat) (fs : List Field) (k : Nat) (xs ys : List Value) (X Y : Array Value) (b : Bool) (D : Nat) (w : World), eqDeep P d k fs xs ys = some b → d ≤ D → (∀ j x, xs[j]? = some x → X[k + j]? = some x) → (∀ j y, ys[j]? = some y → Y[k + j]? = some y) →
    (Op.eqFields D X Y fs).run P w = .ok b w
  | 0, _, k, xs, ys, X, Y, b, D, w, h, _, _, _ => by simp [eqDeep] at h
  | d + 1, [], k, xs, ys, X, Y, b, D, w, h, _, hX, hY => by
    simp [eqDeep] at h
    subst h
    simp [Op.eqFields]
  | d + 1, f :: fs, k, xs, ys, X, Y, b, 0, w, h, hD, _, _ => by omega
  | d + 1, f :: fs, k, xs, ys, X, Y, b, D + 1, w, h, hD, hX, hY => by
    unfold eqDeep at h
    split at h
    · cases h
    · rename_i hc
      simp only [Bool.or_eq_true, decide_eq_true_eq, bne_iff_ne, ne_eq, not_or, Decidable.not_not] at hc
      obtain ⟨hname, hoff⟩ := hc
      split at h
      · rename_i gs hg
        split at h
        · rename_i inf hinf
          split at h
          · rename_i b1 b2 h1 h2
            simp only [Option.some.injEq] at h
            subst h
            have r1 := eqDeep_run d gs 0 _ _ (X.extract k (k + inf.size)) (Y.extract k (k + inf.size)) b1 D w h1 (by omega) (cut_cells hX) (cut_cells hY)
            have r2 := eqDeep_run d fs (k + inf.size) _ _ X Y b2 (D + 1) w h2 (by omega) (fun j x hj => by rw [List.getElem?_drop] at hj; have := hX _ x hj; rwa [show k + (inf.size + j) = k + inf.size + j from by omega] at this) (fun j x hj => by rw [List.getElem?_drop] at hj; have := hY _ x hj; rwa [show k + (inf.size + j) = k + inf.size + j from by omega] at this)
            obtain ⟨e1, e2⟩ := eqStruct_eq hg D (X.extract k (k + inf.size)) (Y.extract k (k + inf.size)) w
            have hcs : P.cellsOf f.type = inf.size := by simp [Program.cellsOf, hinf]
            simp only [Op.eqFields, Sem.run_bind, hname, ne_eq, not_false_eq_true, if_true, part, e2, Result.andThen_ok, run_sizeOf w hinf, hcs, hoff, Sem.run_pure, e1, r1]
            cases b1
            · simp
            · simpa using r2
          · cases h
        · cases h
      · split at h
        · rename_i x xs' y ys'
          split at h
          · rename_i hfit
            split at h
            · rename_i b1 b2 he hr
              simp only [Option.some.injEq] at h
              subst h
              obtain ⟨h1, _, _, h4⟩ := eqV_run he hfit D w
              have hx0 := hX 0 x rfl
              have hy0 := hY 0 y rfl
              have ih := eqDeep_run d fs (k + 1) xs' ys' X Y b2 (D + 1) w hr (by omega) (fun j x hj => by have := hX (j + 1) x hj; rwa [show k + (j + 1) = k + 1 + j from by omega] at this) (fun j x hj => by have := hY (j + 1) x hj; rwa [show k + (j + 1) = k + 1 + j from by omega] at this)
              simp only [Nat.add_zero] at hx0 hy0
              simp only [Op.eqFields, Sem.run_bind, hname, ne_eq, not_false_eq_true, if_true, part, h4, Result.andThen_ok, Bool.false_eq_true, if_false, hoff, hx0, hy0, Sem.run_pure, h1]
              cases b1
              · simp
              · simpa using ih
            · cases h
          · cases h
        · cases h
theorem eqFlat_run (fs : List Field) (k : Nat) (xs ys : List Value) (X Y : Array Value) (b : Bool) (d : Nat) (w : World) (h : eqFlat P k fs xs ys = some b) (hd : 64 ≤ d + 1) (hX : ∀ j x, xs[j]? = some x → X[k + j]? = some x) (hY : ∀ j y, ys[j]? = some y → Y[k + j]? = some y) :
    (Op.eqFields (d + 1) X Y fs).run P w = .ok b w := eqDeep_run 64 fs k xs ys X Y b (d + 1) w h hd hX hY

def avals : List AV → Option (List Value)
 | [] => some []
 | .rv (.v x) :: r => match avals r with
  | some l => some (x :: l)
  | none => none
 | _ :: _ => none

theorem avals_rel {w : World} {ro : Nat → Prop} {σ : Heap} {β : Nat → Value} {N : Nat} : ∀ {cs : List AV} {l : List Value} {c : Nat → Value}, avals cs = some l → (∀ j x, cs[j]? = some x → ARel w ro σ β N x (c j)) → l.length = cs.length ∧ ∀ j x, l[j]? = some x → c j = x
 | [], l, c, h, _ => by simp [avals] at h; subst h; simp
 | .rv (.v x) :: r, l, c, h, hc => by
  simp only [avals] at h
  cases hr : avals r with
  | none => simp [hr] at h
  | some l' =>
   simp [hr] at h
   subst h
   obtain ⟨h1, h2⟩ := avals_rel (c := fun j => c (j + 1)) hr fun j x hj => hc (j + 1) x hj
   refine ⟨by simp [h1], fun j y hj => ?_⟩
   cases j with
   | zero => simp at hj; subst hj; exact ARel.val (hc 0 _ rfl)
   | succ j => exact h2 j y hj
 | .rv (.ptr _) :: _, _, _, h, _ => by simp [avals] at h
 | .rv (.sl _ _) :: _, _, _, h, _ => by simp [avals] at h
 | .agg _ :: _, _, _, h, _ => by simp [avals] at h
 | .tuple _ :: _, _, _, h, _ => by simp [avals] at h
 | .ptr _ _ :: _, _, _, h, _ => by simp [avals] at h
 | .bsl _ _ :: _, _, _, h, _ => by simp [avals] at h
 | .eptr _ _ _ :: _, _, _, h, _ => by simp [avals] at h
 | .sl _ :: _, _, _, h, _ => by simp [avals] at h
 | .fn _ _ _ :: _, _, _, h, _ => by simp [avals] at h
 | .ref _ :: _, _, _, h, _ => by simp [avals] at h
 | .top :: _, _, _, h, _ => by simp [avals] at h

theorem eqStruct_run {t : TypeId} {fs : List Field} (h : eqStruct P t = some fs) {cs ds : List AV} {xs ys : List Value} {b : Bool} (hxs : avals cs = some xs) (hys : avals ds = some ys) (hb : eqFlat P 0 fs xs ys = some b)
    {w : World} {ro : Nat → Prop} {σ : Heap} {β : Nat → Value} {N : Nat} {X Y : Value} (hX : ARel w ro σ β N (.agg cs) X) (hY : ARel w ro σ β N (.agg ds) Y) :
    ∃ p q, X = .agg p ∧ Y = .agg q ∧ P.eqGuardType P.depth t = false ∧ (Op.equalIn 10000 t (.agg p) (.agg q)).run P w = .ok b w := by
  unfold eqStruct at h
  split at h
  · rename_i fa hu
    split at h
    · cases h
    · rename_i hc
      simp only [Bool.or_eq_true, not_or, Bool.not_eq_true] at hc
      simp only [Option.some.injEq] at h
      subst h
      cases hX with
      | agg _ p hp hpc =>
        cases hY with
        | agg _ q hq hqc =>
          refine ⟨p, q, rfl, rfl, hc.2, ?_⟩
          have hfo : P.fieldsOf t = fa := by simp [Program.fieldsOf, hu]
          rw [run_equalIn_struct w 9999 t p q (by rw [hfo]; exact hu) hc.1, hfo]
          obtain ⟨h1, h2⟩ := avals_rel (c := fun j => p.getD j undef) hxs hpc
          obtain ⟨h3, h4⟩ := avals_rel (c := fun j => q.getD j undef) hys hqc
          refine eqFlat_run fa.toList 0 xs ys p q b 9998 w hb (by omega) (fun j x hj => ?_) (fun j x hj => ?_)
          · have hlt : j < p.size := by
              rcases Nat.lt_or_ge j xs.length with h | h
              · omega
              · rw [List.getElem?_eq_none h] at hj; cases hj
            have := h2 j x hj
            simp [hlt] at this
            simp [hlt, this]
          · have hlt : j < q.size := by
              rcases Nat.lt_or_ge j ys.length with h | h
              · omega
              · rw [List.getElem?_eq_none h] at hj; cases hj
            have := h4 j x hj
            simp [hlt] at this
            simp [hlt, this]
  · rename_i n e hu
    split at h
    · rename_i inf hinf
      split at h
      · cases h
      · rename_i hc
        simp only [Bool.not_eq_true] at hc
        simp only [Option.some.injEq] at h
        subst h
        cases hX with
        | agg _ p hp hpc =>
          cases hY with
          | agg _ q hq hqc =>
            refine ⟨p, q, rfl, rfl, hc, ?_⟩
            rw [run_equalIn_array w 9999 p q hu hinf, ← eqItems_fields]
            obtain ⟨h1, h2⟩ := avals_rel (c := fun j => p.getD j undef) hxs hpc
            obtain ⟨h3, h4⟩ := avals_rel (c := fun j => q.getD j undef) hys hqc
            refine eqFlat_run _ 0 xs ys p q b 9998 w hb (by omega) (fun j x hj => ?_) (fun j x hj => ?_)
            · have hlt : j < p.size := by
                rcases Nat.lt_or_ge j xs.length with h | h
                · omega
                · rw [List.getElem?_eq_none h] at hj; cases hj
              have := h2 j x hj
              simp [hlt] at this
              simp [hlt, this]
            · have hlt : j < q.size := by
                rcases Nat.lt_or_ge j ys.length with h | h
                · omega
                · rw [List.getElem?_eq_none h] at hj; cases hj
              have := h4 j x hj
              simp [hlt] at this
              simp [hlt, this]
    · cases h
  · cases h

theorem R_eql_agg (tx ty : TypeId) (x y : Operand) (ho : o.op = .binOp .eql tx x y ty) {fs : List Field} (h : eqStruct P tx = some fs) {cs ds : List AV} (hx : aval G s x = .agg cs) (hy : aval G s y = .agg ds)
    {xs ys : List Value} {b : Bool} (hxs : avals cs = some xs) (hys : avals ds = some ys) (hb : eqFlat P 0 fs xs ys = some b) : VStep P G o s (.rv (.v (.bool b))) :=
  fun _ a w β ro hr => by
    obtain ⟨p, q, h1, h2, h3, h4⟩ := eqStruct_run h hxs hys hb (hx ▸ hr.eval x) (hy ▸ hr.eval y)
    exact ⟨.bool b, by simp only [execOp, ho, h1, h2, Sem.run_bind, run_eqGuard_agg w .eql tx x y p q h3, Result.andThen_ok, run_eql_struct, h4, Sem.run_pure], .ofV rfl⟩
theorem R_neq_agg (tx ty : TypeId) (x y : Operand) (ho : o.op = .binOp .neq tx x y ty) {fs : List Field} (h : eqStruct P tx = some fs) {cs ds : List AV} (hx : aval G s x = .agg cs) (hy : aval G s y = .agg ds)
    {xs ys : List Value} {b : Bool} (hxs : avals cs = some xs) (hys : avals ds = some ys) (hb : eqFlat P 0 fs xs ys = some b) : VStep P G o s (.rv (.v (.bool (!b)))) :=
  fun _ a w β ro hr => by
    obtain ⟨p, q, h1, h2, h3, h4⟩ := eqStruct_run h hxs hys hb (hx ▸ hr.eval x) (hy ▸ hr.eval y)
    exact ⟨.bool (!b), by simp only [execOp, ho, h1, h2, Sem.run_bind, run_eqGuard_agg w .neq tx x y p q h3, Result.andThen_ok, run_neq_struct, h4, Sem.run_pure], .ofV rfl⟩

theorem R_not (t : TypeId) (x : Operand) (ho : o.op = .unOp .not t x) {b : Bool} (hx : aval G s x = .rv (.v (.bool b))) : VStep P G o s (.rv (.v (.bool (!b)))) :=
 fun _ a w β ro hr => ⟨.bool (!b), by simp [execOp, ho, hr.evalV hx, Op.unary], .ofV rfl⟩
theorem R_neg (t : TypeId) (x : Operand) (ho : o.op = .unOp .neg t x) {k : IntKind} {n : Int} (hx : aval G s x = .rv (.v (.int k n))) : VStep P G o s (.rv (.v (.int k (k.wrap (0 - n))))) :=
 fun _ a w β ro hr => ⟨.int k (k.wrap (0 - n)), by simp [execOp, ho, hr.evalV hx, Op.unary, Op.intArith], .ofV rfl⟩

theorem R_pick (c x y : Operand) (ho : o.op = .pick c x y) {b : Bool} (hc : aval G s c = .rv (.v (.bool b))) {v : AV} (hv : (if b then aval G s x else aval G s y) = v) : VStep P G o s v :=
 fun _ a w β ro hr => ⟨if b then a.eval x else a.eval y, by simp [execOp, ho, hr.evalV hc, asBool], by
  subst hv
  cases b
  ·simpa using hr.eval y
  ·simpa using hr.eval x⟩

theorem R_extract (x : Operand) (i : Nat) (ho : o.op = .extract x i) {cs : List AV} (hx : aval G s x = .tuple cs) {v : AV} (hv : cs[i]? = some v) : VStep P G o s v :=
 fun _ a w β ro hr => by
  have h := hr.eval x
  rw [hx] at h
  generalize he : a.eval x = c at h
  cases h with
  | tuple _ c hs hc =>
   have hlt : i < c.size := by have := (List.getElem?_eq_some_iff.1 hv).1; omega
   refine ⟨c[i], ?_, ?_⟩
   ·simp [execOp, ho, Instr.extract, he, hlt]
   ·simpa [hlt] using hc i v hv
end
end Go.Av
