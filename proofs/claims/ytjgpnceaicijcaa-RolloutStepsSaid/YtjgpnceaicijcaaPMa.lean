/- The AV calculus, part A: values as trees, the relation between a symbolic state and a world, and how it is kept. Conditions: none; nothing here speaks of a particular program. -/
import Derived.WalkKit
import Derived.KernelRfl
namespace Go.Av
open Go

theorem addB (a : Addr) (n : Nat) : (a.add n).block = a.block := by unfold Addr.add; split <;> rfl
theorem addAdd (a : Addr) (i j : Nat) : (a.add i).add j = a.add (i + j) := by
  unfold Addr.add
  by_cases hi : i = 0 <;> by_cases hj : j = 0 <;> simp [hi, hj, Nat.add_assoc]
theorem addLit (b o n : Nat) : (⟨b, o, none⟩ : Addr).add n = ⟨b, o + n, none⟩ := by
  unfold Addr.add; split
  · rename_i h; subst h; rfl
  · rfl

/-- Immutable values: a value of one cell, a pointer to immutable memory that begins with these cells, an immutable slice of elements of n cells each, an immutable map (its keys and values in the order in which they were made; 'agg': a value is a struct or array). -/
inductive RV where
  | v (x : Value)
  | ptr (cs : List RV)
  | sl (n : Nat) (es : List (List RV))
  | mp (agg : Bool) (ks : List Value) (vs : List (List RV))

/-- What a slot can hold: an immutable value, a struct or array (its cells), a tuple, a pointer into an own box, a pointer into an own row, an own row as a slice, a function value, anything. -/
inductive AV where
  | rv (x : RV)
  | agg (cs : List AV)
  | tuple (cs : List AV)
  | ptr (id off : Nat)
  | eptr (id i off : Nat)
  | sl (id : Nat)
  | fn (f : Fn) (first captured : List AV)
  | ref (id : Nat)
  | top

/-- The value of an entry: a struct or array of n parts, or one part. -/
def EntIs (agg : Bool) (n : Nat) (v : Value) (p : Nat → Value) : Prop :=
  match agg with
  | true => ∃ c : Array Value, v = .agg c ∧ c.size = n ∧ ∀ i, i < n → c.getD i undef = p i
  | false => n = 1 ∧ v = p 0
/-- An immutable value stands for a value of the world; 'ro': the blocks that are immutable. -/
inductive RRel (w : World) (ro : Nat → Prop) : RV → Value → Prop where
  | v (x : Value) : x.oneCell' = true → RRel w ro (.v x) x
  | ptr (cs : List RV) (a : Addr) (c : Nat → Value) : (∀ j x, cs[j]? = some x → ro a.block ∧ w.cell? (a.add j) = some (c j)) →
      (∀ j x, cs[j]? = some x → RRel w ro x (c j)) → RRel w ro (.ptr cs) (.pointer (some a))
  | sl (n : Nat) (es : List (List RV)) (b : Option Addr) (cap : Nat) (c : Nat → Value) : es.length ≤ cap → cap ≤ maxLen → (∀ e ∈ es, e.length = n) →
      (0 < es.length → ∃ a, b = some a ∧ ∀ j, j < es.length * n → ro a.block ∧ w.cell? (a.add j) = some (c j)) →
      (∀ j x, es.flatten[j]? = some x → RRel w ro x (c j)) → RRel w ro (.sl n es) (.slice b es.length cap)
  | mp (agg : Bool) (ks : List Value) (vs : List (List RV)) (r : Nat) (es : Array MapEntry) (clock : Nat) (p : Nat → Nat → Value) : ro r → w.heap[r]? = some (.map es clock) → es.size = ks.length → vs.length = ks.length → ks.Nodup →
      (∀ j k cs, ks[j]? = some k → vs[j]? = some cs → ∃ e : MapEntry, es[j]? = some e ∧ e.key = k ∧ EntIs agg cs.length e.val (p j)) →
      (∀ j cs i x, vs[j]? = some cs → cs[i]? = some x → RRel w ro x (p j i)) → RRel w ro (.mp agg ks vs) (.map (some r))

theorem RRel.one {w : World} {ro : Nat → Prop} {x : RV} {c : Value} (h : RRel w ro x c) : c.oneCell' = true := by
  cases h with
  | v x hx => exact hx
  | ptr => rfl
  | sl => rfl
  | mp => rfl

theorem RRel.keep {w w' : World} {ro ro' : Nat → Prop} {x : RV} {c : Value} (h : RRel w ro x c)
    (hw : ∀ b, ro b → w'.heap[b]? = w.heap[b]?) (hro : ∀ b, ro b → ro' b) : RRel w' ro' x c := by
  induction h with
  | v x hx => exact .v x hx
  | ptr cs a c h1 _ ih =>
    exact .ptr cs a c (fun j x hj => ⟨hro _ (h1 j x hj).1, by
      rw [World.cell?_of_block (w := w) (by rw [addB]; exact hw _ (h1 j x hj).1)]; exact (h1 j x hj).2⟩) ih
  | sl n es b cap c h1 h2 h3 h4 _ ih =>
    refine .sl n es b cap c h1 h2 h3 (fun hp => ?_) ih
    obtain ⟨a, hb, hc⟩ := h4 hp
    exact ⟨a, hb, fun j hj => ⟨hro _ (hc j hj).1, by
      rw [World.cell?_of_block (w := w) (by rw [addB]; exact hw _ (hc j hj).1)]; exact (hc j hj).2⟩⟩
  | mp agg ks vs r es clock p h1 h2 h3 h4 h5 h6 _ ih => exact .mp agg ks vs r es clock p (hro _ h1) ((hw _ h1).trans h2) h3 h4 h5 h6 ih

/-- The block of a pointer or slice. -/
def blk : Value → Option Nat
  | .pointer (some a) => some a.block
  | .slice (some a) _ cap => if cap = 0 then none else some a.block
  | .map (some r) => some r
  | _ => none

/-- What is said of a block that holds no cells (a string's iterator, a map): it may speak of immutable values, and goes on to hold where more is immutable; what it is once nobody writes it again. -/
structure Oth where
  holds : (RV → Value → Prop) → Value → Obj → Prop
  mono : ∀ (R R' : RV → Value → Prop) v o, (∀ x c, R x c → R' x c) → holds R v o → holds R' v o
  view : Option RV
  viewOk : ∀ rv, view = some rv → ∀ (w : World) (ro ro' : Nat → Prop) (v : Value) (o : Obj) (b : Nat), holds (RRel w ro) v o → blk v = some b → w.heap[b]? = some o → (∀ x, ro x → ro' x) → ro' b → RRel w ro' rv v

/-- An own block: a box (its cells), or a row of elements; 'fz': frozen, nobody will write it again. -/
inductive AObj where
  | box (t : TypeId) (cs : List AV)
  | row (fz : Bool) (t : TypeId) (n : Nat) (es : List (List RV))
  | oth (Φ : Oth)

def AObj.live : AObj → Bool
  | .box _ _ => true
  | .row fz _ _ _ => !fz
  | .oth _ => true

abbrev Heap := List (Nat × AObj)

def hget : Heap → Nat → Option AObj
  | [], _ => none
  | (k, o) :: r, id => if k = id then some o else hget r id

def hset : Heap → Nat → AObj → Heap
  | [], id, o => [(id, o)]
  | (k, x) :: r, id, o => if k = id then (k, o) :: r else (k, x) :: hset r id o

def hdel : Heap → Nat → Heap
  | [], _ => []
  | (k, x) :: r, id => if k = id then hdel r id else (k, x) :: hdel r id

theorem hget_hset (h : Heap) (id : Nat) (o : AObj) (k : Nat) : hget (hset h id o) k = if id = k then some o else hget h k := by
  induction h with
  | nil => simp [hset, hget]
  | cons p r ih =>
    obtain ⟨j, x⟩ := p
    by_cases hj : j = id
    · subst hj
      by_cases hk : j = k <;> simp [hset, hget, hk]
    · by_cases hk : j = k
      · subst hk
        simp [hset, hget, hj, Ne.symm hj]
      · simp [hset, hget, hj, hk, ih]

theorem hget_hdel (h : Heap) (id k : Nat) : hget (hdel h id) k = if id = k then none else hget h k := by
  induction h with
  | nil => simp [hdel, hget]
  | cons p r ih =>
    obtain ⟨j, x⟩ := p
    by_cases hj : j = id
    · subst hj
      by_cases hk : j = k
      · subst hk; simp [hdel, ih]
      · simp [hdel, hget, hk, ih]
    · by_cases hk : j = k
      · subst hk
        simp [hdel, hget, hj, Ne.symm hj]
      · simp [hdel, hget, hj, hk, ih]

/-- The slice value v is an own row of len elements of type t, n cells each, that reads as xs: it has no capacity, or it starts an own block. -/
def RowIs (w : World) (t : TypeId) (n : Nat) (v : Value) (len : Nat) (xs : List Value) : Prop :=
  xs.length = len * n ∧ (((∃ b, v = .slice b 0 0) ∧ len = 0) ∨
   ∃ g cap cur, v = .slice (some ⟨g, 0, none⟩) len cap ∧ 0 < cap ∧ w.heap[g]? = some (.cells cur t (0, 0)) ∧ len ≤ cap ∧ cap ≤ maxLen ∧ cur.size = cap * n ∧ cur.toList.take (len * n) = xs)

/-- What a slot holds, stands for a value. 'σ': the own blocks; 'β': the pointer or slice of each; 'N': every name is below it. A reference to a block that is no longer listed says nothing. -/
inductive ARel (w : World) (ro : Nat → Prop) (σ : Heap) (β : Nat → Value) (N : Nat) : AV → Value → Prop where
  | rv (x : RV) (c : Value) : RRel w ro x c → ARel w ro σ β N (.rv x) c
  | agg (cs : List AV) (c : Array Value) : c.size = cs.length → (∀ j x, cs[j]? = some x → ARel w ro σ β N x (c.getD j undef)) → ARel w ro σ β N (.agg cs) (.agg c)
  | tuple (cs : List AV) (c : Array Value) : c.size = cs.length → (∀ j x, cs[j]? = some x → ARel w ro σ β N x (c.getD j undef)) → ARel w ro σ β N (.tuple cs) (.tuple c)
  | ptr (id off : Nat) (c : Value) : id < N → (∀ t cs, hget σ id = some (.box t cs) → ∃ b, β id = .pointer (some ⟨b, 0, none⟩) ∧ c = .pointer (some ⟨b, off, none⟩)) → ARel w ro σ β N (.ptr id off) c
  | eptr (id i off : Nat) (c : Value) : id < N → (∀ z t n es, hget σ id = some (.row z t n es) → ∃ b l cp, β id = .slice (some ⟨b, 0, none⟩) l cp ∧ c = .pointer (some ⟨b, i * n + off, none⟩)) → ARel w ro σ β N (.eptr id i off) c
  | sl (id : Nat) (c : Value) : id < N → (∀ z t n es, hget σ id = some (.row z t n es) → c = β id) → ARel w ro σ β N (.sl id) c
  | fn (f : Fn) (p q : List AV) (c d : Array Value) : c.size = p.length → d.size = q.length → (∀ j x, p[j]? = some x → ARel w ro σ β N x (c.getD j undef)) →
      (∀ j x, q[j]? = some x → ARel w ro σ β N x (d.getD j undef)) → ARel w ro σ β N (.fn f p q) (.func f c d)
  | ref (id : Nat) (c : Value) : id < N → (∀ Φ, hget σ id = some (.oth Φ) → c = β id) → ARel w ro σ β N (.ref id) c
  | top (c : Value) : ARel w ro σ β N .top c

/-- One own block is there as listed. -/
inductive ORel (w : World) (ro : Nat → Prop) (σ : Heap) (β : Nat → Value) (N : Nat) (id : Nat) : AObj → Prop where
  | box (t : TypeId) (cs : List AV) (b : Nat) (arr : Array Value) : β id = .pointer (some ⟨b, 0, none⟩) → w.heap[b]? = some (.cells arr t (0, 0)) → arr.size = cs.length →
      (∀ j x, cs[j]? = some x → ARel w ro σ β N x (arr.getD j undef)) → ORel w ro σ β N id (.box t cs)
  | row (t : TypeId) (n : Nat) (es : List (List RV)) (xs : List Value) : RowIs w t n (β id) es.length xs → (∀ e ∈ es, e.length = n) →
      (∀ j x, es.flatten[j]? = some x → RRel w ro x (xs.getD j undef)) → ORel w ro σ β N id (.row false t n es)
  | fro (t : TypeId) (n : Nat) (es : List (List RV)) : RRel w ro (.sl n es) (β id) → ORel w ro σ β N id (.row true t n es)
  | oth (Φ : Oth) (b : Nat) (o : Obj) : blk (β id) = some b → w.heap[b]? = some o → Φ.holds (RRel w ro) (β id) o → ORel w ro σ β N id (.oth Φ)

theorem RowIs.blkLt {w : World} {t : TypeId} {n : Nat} {v : Value} {len : Nat} {xs : List Value} (h : RowIs w t n v len xs) {b : Nat} (hb : blk v = some b) :
    b < w.heap.size ∧ ∃ cap cur, v = .slice (some ⟨b, 0, none⟩) len cap ∧ w.heap[b]? = some (.cells cur t (0, 0)) := by
  rcases h.2 with ⟨⟨c, rfl⟩, _⟩ | ⟨g, cap, cur, rfl, hc, hg, _⟩
  · cases c <;> simp [blk] at hb
  · have : cap ≠ 0 := by omega
    simp [blk, this] at hb
    subst hb
    exact ⟨(Array.getElem?_eq_some_iff.1 hg).1, cap, cur, rfl, hg⟩

theorem RowIs.keep {w w' : World} {t : TypeId} {n : Nat} {v : Value} {len : Nat} {xs : List Value} (h : RowIs w t n v len xs) (hw : ∀ b, blk v = some b → w'.heap[b]? = w.heap[b]?) : RowIs w' t n v len xs := by
  refine ⟨h.1, ?_⟩
  rcases h.2 with hr | ⟨g, cap, cur, hv, hc, hg, rest⟩
  · exact .inl hr
  · have : cap ≠ 0 := by omega
    exact .inr ⟨g, cap, cur, hv, hc, (hw g (by rw [hv]; simp [blk, this])).trans hg, rest⟩

theorem ORel.blkLt {w : World} {ro : Nat → Prop} {σ : Heap} {β : Nat → Value} {N id : Nat} {o : AObj} (h : ORel w ro σ β N id o) (hl : o.live = true) {b : Nat} (hb : blk (β id) = some b) : b < w.heap.size := by
  cases h with
  | box t cs b' arr h1 h2 => rw [h1] at hb; simp [blk] at hb; subst hb; exact (Array.getElem?_eq_some_iff.1 h2).1
  | row t n es xs h1 => exact (h1.blkLt hb).1
  | fro => simp [AObj.live] at hl
  | oth Φ b' o h1 h2 => rw [h1] at hb; simp only [Option.some.injEq] at hb; subst hb; exact (Array.getElem?_eq_some_iff.1 h2).1

/-- Block b is one of the own blocks. -/
def Own (σ : Heap) (β : Nat → Value) (b : Nat) : Prop := ∃ id o, hget σ id = some o ∧ o.live = true ∧ blk (β id) = some b

structure HRel (w : World) (ro : Nat → Prop) (σ : Heap) (β : Nat → Value) (N : Nat) : Prop where
  objs : ∀ id o, hget σ id = some o → ORel w ro σ β N id o
  inj : ∀ id id' o o' b, hget σ id = some o → hget σ id' = some o' → o.live = true → o'.live = true → blk (β id) = some b → blk (β id') = some b → id = id'
  disj : ∀ b, ro b → ¬ Own σ β b
  lt : ∀ b, ro b → b < w.heap.size

/-- The package-level variables that are known: their cells. -/
abbrev Glob := Nat → Option (List RV)
def GRel (w : World) (ro : Nat → Prop) (G : Glob) : Prop := ∀ g cs, G g = some cs → RRel w ro (.ptr cs) (.pointer (some ⟨g, 0, none⟩))

/-- Where a call began: the world, the own blocks handed in, the immutable ones. -/
structure Entry where
  w : World
  ro : Nat → Prop
  σ : Heap
  β : Nat → Value
  n : Nat

/-- What has become of the world since the call began. -/
structure Trans (E : Entry) (w : World) (ro : Nat → Prop) (σ : Heap) (β : Nat → Value) (n : Nat) : Prop where
  os : w.os = E.w.os
  tape : w.tape = E.w.tape
  output : w.output = E.w.output
  size : E.w.heap.size ≤ w.heap.size
  frame : ∀ b, b < E.w.heap.size → ¬ Own E.σ E.β b → w.heap[b]? = E.w.heap[b]?
  roSub : ∀ b, ro b → E.ro b ∨ Own E.σ E.β b ∨ E.w.heap.size ≤ b
  roKeep : ∀ b, E.ro b → ro b
  ownSub : ∀ b, Own σ β b → Own E.σ E.β b ∨ E.w.heap.size ≤ b
  old : ∀ id, id < E.n → ∀ o, hget σ id = some o → hget E.σ id ≠ none ∧ β id = E.β id
  new : ∀ id o, hget σ id = some o → id < n
  le : E.n ≤ n

/-- A symbolic state: the slots, the own blocks, the first free name, the first name of the call's own. -/
structure St where
  slots : List AV
  heap : Heap
  next : Nat
  base : Nat

/-- The state, the activation and the world fit, the own blocks at β, the immutable ones ro. -/
structure RelAt (E : Entry) (G : Glob) (s : St) (a : Act) (w : World) (β : Nat → Value) (ro : Nat → Prop) : Prop where
  defers : a.defers = []
  size : a.tmps.size = s.slots.length
  slot : ∀ i x, s.slots[i]? = some x → ARel w ro s.heap β s.next x (a.tmps.getD i undef)
  heap : HRel w ro s.heap β s.next
  glob : GRel w ro G
  trans : Trans E w ro s.heap β s.next
  base : E.n ≤ s.base

def Rel (E : Entry) (G : Glob) (s : St) (a : Act) (w : World) : Prop := ∃ β ro, RelAt E G s a w β ro

/-- A value of a slot is kept where the world keeps the immutable blocks, the own blocks keep their places, and no kind turns. -/
theorem ARel.keep {w w' : World} {ro ro' : Nat → Prop} {σ σ' : Heap} {β β' : Nat → Value} {N N' : Nat} {x : AV} {c : Value} (h : ARel w ro σ β N x c)
    (hw : ∀ b, ro b → w'.heap[b]? = w.heap[b]?) (hro : ∀ b, ro b → ro' b) (hN : N ≤ N')
    (hbox : ∀ id t cs, hget σ' id = some (.box t cs) → β' id = β id ∧ ∃ t cs, hget σ id = some (.box t cs))
    (hrow : ∀ id z t n es, hget σ' id = some (.row z t n es) → β' id = β id ∧ ∃ z t es, hget σ id = some (.row z t n es))
    (hoth : ∀ id Φ, hget σ' id = some (.oth Φ) → β' id = β id ∧ ∃ Φ, hget σ id = some (.oth Φ)) : ARel w' ro' σ' β' N' x c := by
  induction h with
  | rv x c hx => exact .rv x c (hx.keep hw hro)
  | agg cs c hs _ ih => exact .agg cs c hs ih
  | tuple cs c hs _ ih => exact .tuple cs c hs ih
  | ptr id off c hl hp =>
    refine .ptr id off c (by omega) fun t cs hg => ?_
    obtain ⟨hb, t', cs', hg'⟩ := hbox id t cs hg
    obtain ⟨b, h1, h2⟩ := hp t' cs' hg'
    exact ⟨b, hb.trans h1, h2⟩
  | eptr id i off c hl hp =>
    refine .eptr id i off c (by omega) fun z t n es hg => ?_
    obtain ⟨hb, z', t', es', hg'⟩ := hrow id z t n es hg
    obtain ⟨b, l, cp, h1, h2⟩ := hp z' t' n es' hg'
    exact ⟨b, l, cp, hb.trans h1, h2⟩
  | sl id c hl hp =>
    refine .sl id c (by omega) fun z t n es hg => ?_
    obtain ⟨hb, z', t', es', hg'⟩ := hrow id z t n es hg
    rw [hb]
    exact hp z' t' n es' hg'
  | fn f p q c d h1 h2 _ _ ih1 ih2 => exact .fn f p q c d h1 h2 ih1 ih2
  | ref id c hl hp =>
    refine .ref id c (by omega) fun Φ hg => ?_
    obtain ⟨hb, Φ', hg'⟩ := hoth id Φ hg
    rw [hb]
    exact hp Φ' hg'
  | top c => exact .top c

theorem GRel.keep {w w' : World} {ro ro' : Nat → Prop} {G : Glob} (h : GRel w ro G)
    (hw : ∀ b, ro b → w'.heap[b]? = w.heap[b]?) (hro : ∀ b, ro b → ro' b) : GRel w' ro' G := fun g cs hg => (h g cs hg).keep hw hro

def St.put (s : St) (dst : Option Nat) (v : AV) : St :=
  match dst with
  | some d => { s with slots := s.slots.set d v }
  | none => s

/-- A value is put into a slot. -/
theorem RelAt.put {E : Entry} {G : Glob} {s : St} {a : Act} {w : World} {β : Nat → Value} {ro : Nat → Prop} (h : RelAt E G s a w β ro) (dst : Option Nat) (v : AV) (c : Value)
    (hv : ARel w ro s.heap β s.next v c) : RelAt E G (s.put dst v) (a.put dst c) w β ro := by
  cases dst with
  | none => exact h
  | some d =>
    refine ⟨h.defers, by simpa [Act.put, St.put] using h.size, fun i x hx => ?_, h.heap, h.glob, h.trans, h.base⟩
    simp only [St.put, Act.put] at hx ⊢
    rw [List.getElem?_set] at hx
    have hsz := h.size
    by_cases hdi : d = i
    · subst hdi
      simp only [if_true] at hx
      split at hx
      · rename_i hlt
        simp only [Option.some.injEq] at hx
        subst hx
        have : d < a.tmps.size := by omega
        simpa [this] using hv
      · cases hx
    · simp only [hdi, if_false] at hx
      have := h.slot i x hx
      simpa [Array.getElem?_setIfInBounds_ne hdi] using this

end Go.Av
