/- The AV calculus: calls that are handed own blocks, and give them back changed. Conditions: none. -/
import Derived.Test.YtjgpnceaicijcaaPNa
namespace Go.Av
open Go

def number : Nat → List AObj → Heap
  | _, [] => []
  | j, o :: r => (j, o) :: number (j + 1) r
theorem hget_number : ∀ (l : List AObj) (j id : Nat), hget (number j l) id = if j ≤ id then l[id - j]? else none
  | [], j, id => by simp [number, hget]
  | o :: r, j, id => by
    simp only [number, hget, hget_number r (j + 1) id]
    by_cases h : j = id
    · subst h; simp
    · by_cases h2 : j ≤ id
      · rw [if_neg h, if_pos h2, if_pos (by omega), show id - j = (id - (j + 1)) + 1 from by omega, List.getElem?_cons_succ]
      · rw [if_neg h, if_neg h2, if_neg (by omega)]
theorem hget_number0 (l : List AObj) (id : Nat) : hget (number 0 l) id = l[id]? := by rw [hget_number]; simp

def idxOf : List Nat → Nat → Option Nat
  | [], _ => none
  | k :: r, id => if k = id then some 0 else (idxOf r id).map (· + 1)
theorem idxOf_some : ∀ {ids : List Nat} {id j : Nat}, idxOf ids id = some j → ids[j]? = some id
  | [], id, j, h => by cases h
  | k :: r, id, j, h => by
    simp only [idxOf] at h
    split at h
    · rename_i e
      cases h
      simp [e]
    · obtain ⟨i, hi, rfl⟩ := Option.map_eq_some_iff.1 h
      rw [List.getElem?_cons_succ]
      exact idxOf_some hi
mutual
/-- Names as the callee sees them. -/
def renA (ids : List Nat) : AV → AV
  | .rv x => .rv x
  | .agg cs => .agg (renL ids cs)
  | .tuple cs => .tuple (renL ids cs)
  | .ptr id off => match idxOf ids id with
    | some j => .ptr j off
    | none => .top
  | .eptr id i off => match idxOf ids id with
    | some j => .eptr j i off
    | none => .top
  | .sl id => match idxOf ids id with
    | some j => .sl j
    | none => .top
  | .fn f p q => .fn f (renL ids p) (renL ids q)
  | .ref id => match idxOf ids id with
    | some j => .ref j
    | none => .top
  | .top => .top
def renL (ids : List Nat) : List AV → List AV
  | [] => []
  | x :: r => renA ids x :: renL ids r
end
theorem renL_length (ids : List Nat) : ∀ (l : List AV), (renL ids l).length = l.length
  | [] => rfl
  | x :: r => by simp [renL, renL_length ids r]
theorem renL_at (ids : List Nat) : ∀ {l : List AV} {j : Nat} {x : AV}, (renL ids l)[j]? = some x → ∃ y, l[j]? = some y ∧ x = renA ids y
  | [], j, x, h => by simp [renL] at h
  | y :: r, j, x, h => by
    cases j with
    | zero => simp [renL] at h; exact ⟨y, by simp, h.symm⟩
    | succ j => simp [renL] at h; simpa using renL_at ids h

def pureO : AObj → Bool
  | .box _ cs => pureL cs
  | .row fz _ _ _ => !fz
  | .oth _ => true
section
variable {w : World} {ro : Nat → Prop} {σ : Heap} {β : Nat → Value} {N : Nat} {ids : List Nat} {os : List AObj}
/-- The blocks as the callee names them. -/
abbrev hand (β : Nat → Value) (ids : List Nat) : Nat → Value := fun j => β (ids.getD j 0)
theorem ren_rel (hos : ids.map (hget σ) = os.map some) {x : AV} {c : Value} (h : ARel w ro σ β N x c) : ARel w ro (number 0 os) (hand β ids) os.length (renA ids x) c := by
  have hlen : ids.length = os.length := by simpa using congrArg List.length hos
  have at_ : ∀ {id j : Nat}, idxOf ids id = some j → j < os.length ∧ hand β ids j = β id ∧ ∀ o, hget (number 0 os) j = some o → hget σ id = some o := by
    intro id j hj
    have h1 := idxOf_some hj
    have hjl : j < ids.length := (List.getElem?_eq_some_iff.1 h1).1
    refine ⟨by omega, by simp [hand, List.getD, h1], fun o ho => ?_⟩
    rw [hget_number0] at ho
    have h2 := congrArg (·[j]?) hos
    simp only [List.getElem?_map, h1, ho, Option.map_some, Option.some.injEq] at h2
    exact h2
  induction h with
  | rv x c h => exact .rv x c h
  | agg cs c h1 _ ih =>
    refine .agg _ c (by rw [renL_length]; exact h1) fun j x hj => ?_
    obtain ⟨y, hy, rfl⟩ := renL_at _ hj
    exact ih j y hy
  | tuple cs c h1 _ ih =>
    refine .tuple _ c (by rw [renL_length]; exact h1) fun j x hj => ?_
    obtain ⟨y, hy, rfl⟩ := renL_at _ hj
    exact ih j y hy
  | ptr id off c hl hp =>
    simp only [renA]
    split
    · rename_i j hj
      obtain ⟨a1, a2, a3⟩ := at_ hj
      exact .ptr j off c a1 fun t cs hg => by rw [a2]; exact hp t cs (a3 _ hg)
    · exact .top c
  | eptr id i off c hl hp =>
    simp only [renA]
    split
    · rename_i j hj
      obtain ⟨a1, a2, a3⟩ := at_ hj
      exact .eptr j i off c a1 fun z t n es hg => by rw [a2]; exact hp z t n es (a3 _ hg)
    · exact .top c
  | sl id c hl hp =>
    simp only [renA]
    split
    · rename_i j hj
      obtain ⟨a1, a2, a3⟩ := at_ hj
      exact .sl j c a1 fun z t n es hg => by rw [a2]; exact hp z t n es (a3 _ hg)
    · exact .top c
  | fn f p q c d h1 h2 _ _ ih1 ih2 =>
    refine .fn f _ _ c d (by rw [renL_length]; exact h1) (by rw [renL_length]; exact h2) (fun j x hj => ?_) (fun j x hj => ?_)
    · obtain ⟨y, hy, rfl⟩ := renL_at _ hj
      exact ih1 j y hy
    · obtain ⟨y, hy, rfl⟩ := renL_at _ hj
      exact ih2 j y hy
  | ref id c hl hp =>
    simp only [renA]
    split
    · rename_i j hj
      obtain ⟨a1, a2, a3⟩ := at_ hj
      exact .ref j c a1 fun Φ hg => by rw [a2]; exact hp Φ (a3 _ hg)
    · exact .top c
  | top c => exact .top c

theorem hand_heap (hh : HRel w ro σ β N) (hos : ids.map (hget σ) = os.map some) (hnd : ids.Nodup) (hp : ∀ o ∈ os, pureO o = true) : HRel w ro (number 0 os) (hand β ids) os.length := by
  have hlen : ids.length = os.length := by simpa using congrArg List.length hos
  have at_ : ∀ {j : Nat} {o : AObj}, hget (number 0 os) j = some o → ∃ id, ids[j]? = some id ∧ hget σ id = some o ∧ hand β ids j = β id ∧ pureO o = true := by
    intro j o ho
    rw [hget_number0] at ho
    have hjl : j < ids.length := by rw [hlen]; exact (List.getElem?_eq_some_iff.1 ho).1
    have h1 : ids[j]? = some ids[j] := List.getElem?_eq_getElem hjl
    have h2 := congrArg (·[j]?) hos
    simp only [List.getElem?_map, h1, ho, Option.map_some, Option.some.injEq] at h2
    exact ⟨_, h1, h2, by simp [hand, List.getD, h1], hp o (List.mem_of_getElem? ho)⟩
  refine ⟨fun j o ho => ?_, fun j j' o o' b ho ho' hl hl' hb hb' => ?_, fun b hb => ?_, hh.lt⟩
  · obtain ⟨id, _, h2, h3, h4⟩ := at_ ho
    have hoo := hh.objs id o h2
    cases hoo with
    | box t cs b arr e1 e2 e3 e4 =>
      refine .box t cs b arr (h3.trans e1) e2 e3 fun i x hi => pure_rel (e4 i x hi) (pureL_at (by simpa [pureO] using h4) hi)
    | row t n es xs e1 e2 e3 => exact .row t n es xs (by rw [h3]; exact e1) e2 e3
    | fro t n es e1 => simp [pureO] at h4
    | oth Φ b o e1 e2 e3 => exact .oth Φ b o (by rw [h3]; exact e1) e2 (by rw [h3]; exact e3)
  · obtain ⟨id, h1, h2, h3, h4⟩ := at_ ho
    obtain ⟨id', h1', h2', h3', h4'⟩ := at_ ho'
    rw [h3] at hb
    rw [h3'] at hb'
    have hid := hh.inj id id' o o' b h2 h2' hl hl' hb hb'
    subst hid
    exact (List.getElem?_inj (List.getElem?_eq_some_iff.1 h1).1 hnd).1 (h1.trans h1'.symm)
  · rintro ⟨j, o, ho, hl, hbk⟩
    obtain ⟨id, h1, h2, h3, h4⟩ := at_ ho
    rw [h3] at hbk
    exact hh.disj b hb ⟨id, o, h2, hl, hbk⟩
end


/-- Own blocks under other names. -/
theorem Le.ren {s : St} (ids : List Nat) (os : List AObj) (hb : s.base = 0) (hos : ids.map (hget s.heap) = os.map some) (hnd : ids.Nodup) (hp : ∀ o ∈ os, pureO o = true) : Le s ⟨renL ids s.slots, number 0 os, os.length, 0⟩ := by
  intro E G a w ⟨β, ro, h⟩
  have hn : E.n = 0 := by have := h.base; omega
  have hil : ids.length = os.length := by simpa using congrArg List.length hos
  refine ⟨hand β ids, ro, h.defers, by rw [h.size]; exact (renL_length ids s.slots).symm, fun i x hx => ?_, hand_heap h.heap hos hnd hp, h.glob, ?_, by rw [hn]; exact Nat.le_refl _⟩
  · obtain ⟨y, hy, rfl⟩ := renL_at _ hx
    exact ren_rel hos (h.slot i y hy)
  · have t := h.trans
    refine ⟨t.os, t.tape, t.output, t.size, t.frame, t.roSub, t.roKeep, ?_, fun id hid => by omega, fun id q hq => ?_, by rw [hn]; exact Nat.zero_le _⟩
    · rintro b ⟨j, q, hq, hl, hbk⟩
      have hq2 : os[j]? = some q := by rw [← hget_number0]; exact hq
      have hjl : j < ids.length := by rw [hil]; exact (List.getElem?_eq_some_iff.1 hq2).1
      have g1 : ids[j]? = some ids[j] := List.getElem?_eq_getElem hjl
      have g4 := congrArg (·[j]?) hos
      simp only [List.getElem?_map, g1, hq2, Option.map_some, Option.some.injEq] at g4
      exact t.ownSub b ⟨ids[j], q, g4, hl, by rw [← hbk]; simp [hand, List.getD, g1]⟩
    · rw [hget_number0] at hq
      exact (List.getElem?_eq_some_iff.1 hq).1
end Go.Av
