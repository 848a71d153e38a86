/- The AV calculus: calls of functions and closures that are handed own blocks, which may point to each other, and give them back changed. Conditions: none. -/
import Derived.Test.YtnnlaccdendkpaaPNj
import Derived.Laws.Pointers
namespace Go.Av
open Go

mutual
def unA (ids : List Nat) : AV → AV
 | .rv x => .rv x
 | .agg cs => .agg (unL ids cs)
 | .tuple cs => .tuple (unL ids cs)
 | .ptr j off => match ids[j]? with
  | some id => .ptr id off
  | none => .top
 | .eptr j i off => match ids[j]? with
  | some id => .eptr id i off
  | none => .top
 | .sl j => match ids[j]? with
  | some id => .sl id
  | none => .top
 | .fn f p q => .fn f (unL ids p) (unL ids q)
 | .ref j => match ids[j]? with
  | some id => .ref id
  | none => .top
 | .top => .top
def unL (ids : List Nat) : List AV → List AV
 | [] => []
 | x :: r => unA ids x :: unL ids r
end
theorem unL_length (ids : List Nat) : ∀ (l : List AV), (unL ids l).length = l.length
 | [] => rfl
 | x :: r => by simp [unL, unL_length ids r]
theorem unL_at (ids : List Nat) : ∀ {l : List AV} {j : Nat} {x : AV}, (unL ids l)[j]? = some x → ∃ y, l[j]? = some y ∧ x = unA ids y
 | [], j, x, h => by simp [unL] at h
 | y :: r, j, x, h => by
  cases j with
  | zero => simp [unL] at h; exact ⟨y, by simp, h.symm⟩
  | succ j => simp [unL] at h; simpa using unL_at ids h
theorem unL_get (ids : List Nat) : ∀ {l : List AV} {j : Nat} {y : AV}, l[j]? = some y → (unL ids l)[j]? = some (unA ids y)
 | [], j, y, h => by simp at h
 | z :: r, j, y, h => by
  cases j with
  | zero => simp at h; simp [unL, h]
  | succ j => simp at h; simpa [unL] using unL_get ids h
mutual
def closA (n : Nat) : AV → Bool
 | .rv _ => true
 | .agg cs => closL n cs
 | .tuple cs => closL n cs
 | .ptr j _ => Nat.blt j n
 | .eptr j _ _ => Nat.blt j n
 | .sl j => Nat.blt j n
 | .fn _ p q => closL n p && closL n q
 | .ref j => Nat.blt j n
 | .top => true
def closL (n : Nat) : List AV → Bool
 | [] => true
 | x :: r => closA n x && closL n r
end
theorem closL_at {n : Nat} : ∀ {l : List AV} {j : Nat} {x : AV}, closL n l = true → l[j]? = some x → closA n x = true
 | [], j, x, _, h => by simp at h
 | y :: r, j, x, hc, h => by
  simp only [closL, Bool.and_eq_true] at hc
  cases j with
  | zero => simp at h; subst h; exact hc.1
  | succ j => simp at h; exact closL_at hc.2 h
def unO (ids : List Nat) : AObj → AObj
 | .box t cs => .box t (unL ids cs)
 | .row fz t n es => .row fz t n es
 | .oth Φ => .oth Φ
def closO (n : Nat) : AObj → Bool
 | .box _ cs => closL n cs
 | .row fz _ _ _ => !fz
 | .oth _ => true
theorem closO_live {n : Nat} {o : AObj} (h : closO n o = true) : o.live = true := by
 cases o with
 | box => rfl
 | row fz _ _ _ => simpa [closO, AObj.live] using h
 | oth => rfl
theorem unO_live (ids : List Nat) (o : AObj) : (unO ids o).live = o.live := by cases o <;> rfl

section
variable {w : World} {ro : Nat → Prop} {σ : Heap} {β : Nat → Value} {N : Nat} {ids : List Nat} {os : List AObj}
theorem hos_at (hos : ids.map (hget σ) = os.map fun o => some (unO ids o)) {j : Nat} {o : AObj} (ho : os[j]? = some o) : ∃ id, ids[j]? = some id ∧ hget σ id = some (unO ids o) ∧ hand β ids j = β id := by
 have hlen : ids.length = os.length := by simpa using congrArg List.length hos
 have hjl : j < ids.length := by rw [hlen]; exact (List.getElem?_eq_some_iff.1 ho).1
 have h1 : ids[j]? = some ids[j] := List.getElem?_eq_getElem hjl
 have h2 := congrArg (·[j]?) hos
 simp only [List.getElem?_map, h1, ho, Option.map_some, Option.some.injEq] at h2
 exact ⟨_, h1, h2, by simp [hand, List.getD, h1]⟩
theorem un_rel (hos : ids.map (hget σ) = os.map fun o => some (unO ids o)) {y : AV} {c : Value} (h : ARel w ro σ β N y c) : ∀ x, unA ids x = y → closA os.length x = true → ARel w ro (number 0 os) (hand β ids) os.length x c := by
 have hlen : ids.length = os.length := by simpa using congrArg List.length hos
 have nm : ∀ {j : Nat}, Nat.blt j os.length = true → ids[j]? = some (ids.getD j 0) ∧ j < os.length := fun {j} hj => by
  have hj : j < os.length := Nat.le_of_ble_eq_true hj
  have h1 : ids[j]? = some ids[j] := List.getElem?_eq_getElem (by omega)
  exact ⟨by simp [List.getD, h1], hj⟩
 have find : ∀ {j : Nat} {o : AObj}, hget (number 0 os) j = some o → hget σ (ids.getD j 0) = some (unO ids o) := fun {j o} ho => by
  rw [hget_number0] at ho
  obtain ⟨id, h1, h2, _⟩ := hos_at (β := β) hos ho
  simpa [List.getD, h1] using h2
 induction h with
 | rv r c hr =>
  intro x hx hc
  cases x <;> simp only [unA] at hx
  all_goals first
   | (split at hx <;> cases hx; done)
   | (cases hx; done)
   | (cases hx; exact .rv _ _ hr)
 | agg cs c h1 _ ih =>
  intro x hx hc
  cases x <;> simp only [unA] at hx
  all_goals first
   | (split at hx <;> cases hx; done)
   | (cases hx; done)
   | skip
  case agg cs0 =>
   simp only [AV.agg.injEq] at hx
   subst hx
   refine .agg _ c (by rw [unL_length] at h1; exact h1) fun j x hj => ih j _ (unL_get ids hj) x rfl (closL_at (by simpa [closA] using hc) hj)
 | tuple cs c h1 _ ih =>
  intro x hx hc
  cases x <;> simp only [unA] at hx
  all_goals first
   | (split at hx <;> cases hx; done)
   | (cases hx; done)
   | skip
  case tuple cs0 =>
   simp only [AV.tuple.injEq] at hx
   subst hx
   refine .tuple _ c (by rw [unL_length] at h1; exact h1) fun j x hj => ih j _ (unL_get ids hj) x rfl (closL_at (by simpa [closA] using hc) hj)
 | ptr id off c hl hp =>
  intro x hx hc
  cases x <;> simp only [unA] at hx
  all_goals first
   | (split at hx <;> cases hx; done)
   | (cases hx; done)
   | skip
  case ptr j off' =>
   obtain ⟨n1, n2⟩ := nm (by simpa [closA] using hc)
   rw [n1] at hx
   cases hx
   exact .ptr j off c n2 fun t cs hg => hp t _ (find hg)
 | eptr id i off c hl hp =>
  intro x hx hc
  cases x <;> simp only [unA] at hx
  all_goals first
   | (split at hx <;> cases hx; done)
   | (cases hx; done)
   | skip
  case eptr j i' off' =>
   obtain ⟨n1, n2⟩ := nm (by simpa [closA] using hc)
   rw [n1] at hx
   cases hx
   exact .eptr j i off c n2 fun z t n es hg => hp z t n es (find hg)
 | sl id c hl hp =>
  intro x hx hc
  cases x <;> simp only [unA] at hx
  all_goals first
   | (split at hx <;> cases hx; done)
   | (cases hx; done)
   | skip
  case sl j =>
   obtain ⟨n1, n2⟩ := nm (by simpa [closA] using hc)
   rw [n1] at hx
   cases hx
   exact .sl j c n2 fun z t n es hg => hp z t n es (find hg)
 | fn f p q c d h1 h2 _ _ ih1 ih2 =>
  intro x hx hc
  cases x <;> simp only [unA] at hx
  all_goals first
   | (split at hx <;> cases hx; done)
   | (cases hx; done)
   | skip
  case fn f' p' q' =>
   simp only [AV.fn.injEq] at hx
   obtain ⟨rfl, rfl, rfl⟩ := hx
   simp only [closA, Bool.and_eq_true] at hc
   exact .fn _ _ _ c d (by rw [unL_length] at h1; exact h1) (by rw [unL_length] at h2; exact h2) (fun j x hj => ih1 j _ (unL_get ids hj) x rfl (closL_at hc.1 hj)) (fun j x hj => ih2 j _ (unL_get ids hj) x rfl (closL_at hc.2 hj))
 | ref id c hl hp =>
  intro x hx hc
  cases x <;> simp only [unA] at hx
  all_goals first
   | (split at hx <;> cases hx; done)
   | (cases hx; done)
   | skip
  case ref j =>
   obtain ⟨n1, n2⟩ := nm (by simpa [closA] using hc)
   rw [n1] at hx
   cases hx
   exact .ref j c n2 fun Φ hg => hp Φ (find hg)
 | top c =>
  intro x hx hc
  cases x <;> simp only [unA] at hx
  all_goals first
   | exact .top c
   | (cases hx; done)
   | (obtain ⟨n1, _⟩ := nm (by simpa [closA] using hc); rw [n1] at hx; cases hx)
theorem ren_rel2 (hos : ids.map (hget σ) = os.map fun o => some (unO ids o)) {x : AV} {c : Value} (h : ARel w ro σ β N x c) : ARel w ro (number 0 os) (hand β ids) os.length (renA ids x) c := by
 have hlen : ids.length = os.length := by simpa using congrArg List.length hos
 have at_ : ∀ {id j : Nat}, idxOf ids id = some j → j < os.length ∧ hand β ids j = β id ∧ ∀ o, hget (number 0 os) j = some o → hget σ id = some (unO ids o) := by
  intro id j hj
  have h1 := idxOf_some hj
  have hjl : j < ids.length := (List.getElem?_eq_some_iff.1 h1).1
  refine ⟨by omega, by simp [hand, List.getD, h1], fun o ho => ?_⟩
  rw [hget_number0] at ho
  obtain ⟨id', g1, g2, _⟩ := hos_at (β := β) hos ho
  rw [h1] at g1
  cases g1
  exact g2
 induction h with
 | rv x c h => exact .rv x c h
 | agg cs c h1 _ ih =>
  refine .agg _ c (by rw [renL_length]; exact h1) fun j x hj => ?_
  obtain ⟨y, hy, rfl⟩ := renL_at _ hj
  exact ih j y hy
 | tuple cs c h1 _ ih =>
  refine .tuple _ c (by rw [renL_length]; exact h1) fun j x hj => ?_
  obtain ⟨y, hy, rfl⟩ := renL_at _ hj
  exact ih j y hy
 | ptr id off c hl hp =>
  simp only [renA]
  split
  ·rename_i j hj
   obtain ⟨a1, a2, a3⟩ := at_ hj
   exact .ptr j off c a1 fun t cs hg => by rw [a2]; exact hp t _ (a3 _ hg)
  ·exact .top c
 | eptr id i off c hl hp =>
  simp only [renA]
  split
  ·rename_i j hj
   obtain ⟨a1, a2, a3⟩ := at_ hj
   exact .eptr j i off c a1 fun z t n es hg => by rw [a2]; exact hp z t n es (a3 _ hg)
  ·exact .top c
 | sl id c hl hp =>
  simp only [renA]
  split
  ·rename_i j hj
   obtain ⟨a1, a2, a3⟩ := at_ hj
   exact .sl j c a1 fun z t n es hg => by rw [a2]; exact hp z t n es (a3 _ hg)
  ·exact .top c
 | fn f p q c d h1 h2 _ _ ih1 ih2 =>
  refine .fn f _ _ c d (by rw [renL_length]; exact h1) (by rw [renL_length]; exact h2) (fun j x hj => ?_) (fun j x hj => ?_)
  ·obtain ⟨y, hy, rfl⟩ := renL_at _ hj
   exact ih1 j y hy
  ·obtain ⟨y, hy, rfl⟩ := renL_at _ hj
   exact ih2 j y hy
 | ref id c hl hp =>
  simp only [renA]
  split
  ·rename_i j hj
   obtain ⟨a1, a2, a3⟩ := at_ hj
   exact .ref j c a1 fun Φ hg => by rw [a2]; exact hp Φ (a3 _ hg)
  ·exact .top c
 | top c => exact .top c
theorem hand_heap2 (hh : HRel w ro σ β N) (hos : ids.map (hget σ) = os.map fun o => some (unO ids o)) (hnd : ids.Nodup) (hp : ∀ o ∈ os, closO os.length o = true) : HRel w ro (number 0 os) (hand β ids) os.length := by
 have at_ : ∀ {j : Nat} {o : AObj}, hget (number 0 os) j = some o → ∃ id, ids[j]? = some id ∧ hget σ id = some (unO ids o) ∧ hand β ids j = β id ∧ closO os.length o = true := by
  intro j o ho
  rw [hget_number0] at ho
  obtain ⟨id, h1, h2, h3⟩ := hos_at (β := β) hos ho
  exact ⟨id, h1, h2, h3, hp o (List.mem_of_getElem? ho)⟩
 refine ⟨fun j o ho => ?_, fun j j' o o' b ho ho' hl hl' hb hb' => ?_, fun b hb => ?_, hh.lt⟩
 ·obtain ⟨id, _, h2, h3, h4⟩ := at_ ho
  have hoo := hh.objs id _ h2
  cases o with
  | box t cs =>
   cases hoo with
   | box _ _ b arr e1 e2 e3 e4 => exact .box t cs b arr (h3.trans e1) e2 (by rw [e3, unL_length]) fun i x hi => un_rel hos (e4 i _ (unL_get ids hi)) x rfl (closL_at (by simpa [closO] using h4) hi)
  | row fz t n es =>
   cases hoo with
   | row _ _ _ xs e1 e2 e3 => exact .row t n es xs (by rw [h3]; exact e1) e2 e3
   | fro _ _ _ e1 => simp [closO] at h4
  | oth Φ =>
   cases hoo with
   | oth _ b o e1 e2 e3 => exact .oth Φ b o (by rw [h3]; exact e1) e2 (by rw [h3]; exact e3)
 ·obtain ⟨id, h1, h2, h3, h4⟩ := at_ ho
  obtain ⟨id', h1', h2', h3', h4'⟩ := at_ ho'
  rw [h3] at hb
  rw [h3'] at hb'
  have hid := hh.inj id id' _ _ b h2 h2' (by rw [unO_live]; exact hl) (by rw [unO_live]; exact hl') hb hb'
  subst hid
  exact (List.getElem?_inj (List.getElem?_eq_some_iff.1 h1).1 hnd).1 (h1.trans h1'.symm)
 ·rintro ⟨j, o, ho, hl, hbk⟩
  obtain ⟨id, h1, h2, h3, h4⟩ := at_ ho
  rw [h3] at hbk
  exact hh.disj b hb ⟨id, _, h2, by rw [unO_live]; exact hl, hbk⟩
end

section
variable {P : Program} {G : Glob} {s : St}
theorem OpStep.callX {o : Oper} {x : Operand} {xs : Array Operand} {ts : Array TypeId} (ho : o.op = .call { callee := .value x, args := xs, argTypes := ts }) {f : FuncId} {p q : List AV} (hx : aval G s x = .fn (.func f) p q) (hcb : callable P f = true)
    {ids : List Nat} {os os' : List AObj} (hos : ids.map (hget s.heap) = os.map fun o => some (unO ids o)) (hnd : ids.Nodup) (hp : ∀ o ∈ os, closO os.length o = true) (hp' : ∀ o ∈ os', closO os.length o = true) (hk : kindsO os os' = true)
    {args : List AV} (hargs : (p ++ xs.toList.map (aval G s) ++ q).map (fun y => renA ids (viewA s.heap y)) = args) {r : AV} (hc : ACalls P G f args (number 0 os) os.length fun r1 τ1 => r1 = r ∧ τ1 = number 0 os') (hr : pureA r = true) :
    OpStep P G o s ({ s with heap := putH s.heap ids (os'.map (unO ids)) }.put o.dst r) := by
  intro E a w ⟨β, ro, h⟩ KK QQ hKK
  have hfx := h.eval x
  rw [hx] at hfx
  generalize he : a.eval x = fv at hfx
  cases hfx with
  | fn _ _ _ c d h1 h2 hpp hqq =>
    unfold Oper.wp
    simp only [execOp, ho, resolve, he, Deferred.ofValue, Sem.run_bind, Sem.run_pure, Result.andThen_ok, invoke]
    rw [callable_run hcb]
    have hlen : args.length = p.length + xs.size + q.length := by rw [← hargs]; simp [Nat.add_assoc]
    have hall : ∀ i y, (p ++ xs.toList.map (aval G s) ++ q)[i]? = some y → ARel w ro s.heap β s.next y ((c ++ xs.map a.eval ++ d).getD i undef) := fun i y hy => by
      rw [Array.getD_eq_getD_getElem?]
      rcases Nat.lt_or_ge i (p.length + xs.size) with hi | hi
      · rw [List.getElem?_append_left (by simpa using hi)] at hy
        rw [Array.getElem?_append_left (by simpa [h1] using hi)]
        rcases Nat.lt_or_ge i p.length with hi2 | hi2
        · rw [List.getElem?_append_left hi2] at hy
          rw [Array.getElem?_append_left (by omega), ← Array.getD_eq_getD_getElem?]
          exact hpp i y hy
        · rw [List.getElem?_append_right hi2, List.getElem?_map] at hy
          rw [Array.getElem?_append_right (by omega), h1]
          cases hz : xs.toList[i - p.length]? with
          | none => simp [hz] at hy
          | some z =>
            simp only [hz, Option.map_some, Option.some.injEq] at hy
            subst hy
            have hz' : xs[i - p.length]? = some z := by simpa using hz
            simp only [Array.getElem?_map, hz', Option.map_some, Option.getD_some]
            exact h.eval z
      · rw [List.getElem?_append_right (by simpa using hi)] at hy
        rw [Array.getElem?_append_right (by simpa [h1] using hi), ← Array.getD_eq_getD_getElem?]
        have := hqq _ y hy
        simpa [h1] using this
    have hil : ids.length = os.length := by simpa using congrArg List.length hos
    have hkl := kindsO_len hk
    have hcall := hc w (hand β ids) ro (c ++ xs.map a.eval ++ d) (by simp only [Array.size_append, Array.size_map]; omega) (fun i y hy => by
        rw [← hargs, List.getElem?_map] at hy
        cases hz : (p ++ xs.toList.map (aval G s) ++ q)[i]? with
        | none => rw [hz] at hy; cases hy
        | some z =>
          rw [hz] at hy
          simp only [Option.map_some, Option.some.injEq] at hy
          subst hy
          exact ren_rel2 hos (viewA_rel h.heap (hall i z hz))) (hand_heap2 h.heap hos hnd hp) h.glob (fun id q hq => by rw [hget_number0] at hq; exact (List.getElem?_eq_some_iff.1 hq).1)
    refine Calls.mono hcall fun e w' hq => ?_
    obtain ⟨v, r', τ', β', ro', n', rfl, ⟨rfl, rfl⟩, hrel, hh', ht'⟩ := hq
    -- the caller's names of what was handed
    have at_ : ∀ {id j : Nat}, idxOf ids id = some j → ∃ q q', os[j]? = some q ∧ os'[j]? = some q' ∧ hget s.heap id = some (unO ids q) ∧ hand β ids j = β id ∧ β' j = β id ∧ closO os.length q = true ∧ closO os.length q' = true ∧ kindO q q' = true := by
      intro id j hj
      have g1 := idxOf_some hj
      have hjl : j < ids.length := (List.getElem?_eq_some_iff.1 g1).1
      have g2 : os[j]? = some os[j] := List.getElem?_eq_getElem (by omega)
      have g3 : os'[j]? = some os'[j] := List.getElem?_eq_getElem (by omega)
      have g4 := congrArg (·[j]?) hos
      simp only [List.getElem?_map, g1, g2, Option.map_some, Option.some.injEq] at g4
      have g5 : hand β ids j = β id := by simp [hand, List.getD, g1]
      have g6 := (ht'.old j (by show j < os.length; omega) os'[j] (by rw [hget_number0]; exact g3)).2
      exact ⟨_, _, g2, g3, g4, g5, g6.trans g5, hp _ (List.mem_of_getElem? g2), hp' _ (List.mem_of_getElem? g3), kindsO_at hk g2 g3⟩
    have look : ∀ id, hget (putH s.heap ids (os'.map (unO ids))) id = match idxOf ids id with | some j => (os'.map (unO ids))[j]? | none => hget s.heap id := hget_putH s.heap ids (os'.map (unO ids)) (by rw [List.length_map]; omega)
    have g2m : ∀ {j : Nat} {q' : AObj}, os'[j]? = some q' → (os'.map (unO ids))[j]? = some (unO ids q') := fun h => by rw [List.getElem?_map, h]; rfl
    -- an own block is not handed, or it is one of the handed
    have ownH : ∀ b, Own (number 0 os) (hand β ids) b → ∃ id j, idxOf ids id = some j ∧ blk (β id) = some b := by
      rintro b ⟨j, q, hq, hl, hbk⟩
      rw [hget_number0] at hq
      have hjl : j < ids.length := by rw [hil]; exact (List.getElem?_eq_some_iff.1 hq).1
      have g1 : ids[j]? = some ids[j] := List.getElem?_eq_getElem hjl
      cases hi : idxOf ids ids[j] with
      | none => exact absurd g1 (idxOf_none hi j)
      | some i => exact ⟨ids[j], i, hi, by rw [← hbk]; simp [hand, List.getD, g1]⟩
    have ownLt : ∀ k p b, hget s.heap k = some p → p.live = true → blk (β k) = some b → b < w.heap.size := fun k p b hk hp hbk => (h.heap.objs k p hk).blkLt hp hbk
    have noH : ∀ {id : Nat} {p : AObj} {b : Nat}, idxOf ids id = none → hget s.heap id = some p → p.live = true → blk (β id) = some b → ¬ Own (number 0 os) (hand β ids) b := by
      intro id p b hn hg hl hbk hown
      obtain ⟨id', j, hj, hbk'⟩ := ownH b hown
      obtain ⟨q, _, _, _, g3, _, _, g6, _⟩ := at_ hj
      have := h.heap.inj id id' p _ b hg g3 hl (by rw [unO_live]; exact closO_live g6) hbk hbk'
      subst this
      rw [hn] at hj
      cases hj
    have hframe : ∀ b, b < w.heap.size → ¬ Own (number 0 os) (hand β ids) b → w'.heap[b]? = w.heap[b]? := fun b hb hn => ht'.frame b hb hn
    have hro : ∀ b, ro b → w'.heap[b]? = w.heap[b]? := fun b hb => hframe b (h.heap.lt b hb) fun hown => by
      obtain ⟨id', j, hj, hbk'⟩ := ownH b hown
      obtain ⟨q, _, _, _, g3, _, _, g6, _⟩ := at_ hj
      exact h.heap.disj b hb ⟨id', _, g3, by rw [unO_live]; exact closO_live g6, hbk'⟩
    have hroS : ∀ b, ro' b → ro b ∨ w.heap.size ≤ b := fun b hb => by
      rcases ht'.roSub b hb with hc | hc | hc
      · exact .inl hc
      · obtain ⟨id', j, hj, hbk'⟩ := ownH b hc
        obtain ⟨_, q', _, g2, _, _, g5, _, g7, _⟩ := at_ hj
        exact absurd ⟨j, q', by rw [hget_number0]; exact g2, closO_live g7, by rw [g5]; exact hbk'⟩ (hh'.disj b hb)
      · exact .inr hc
    have up : ∀ x c, ARel w ro s.heap β s.next x c → ARel w' ro' (putH s.heap ids (os'.map (unO ids))) β s.next x c := fun x c hx =>
      hx.keep hro ht'.roKeep (Nat.le_refl _)
        (fun id t cs hg => ⟨rfl, by
          rw [look] at hg
          split at hg
          · rename_i j hj
            obtain ⟨q, q', _, g2, g3, _, _, _, _, gk⟩ := at_ hj
            rw [g2m g2] at hg
            cases q' with
            | box t0 cs0 =>
              cases q with
              | box t' cs' => exact ⟨t', _, g3⟩
              | row => cases gk
              | oth => cases gk
            | row => cases hg
            | oth => cases hg
          · exact ⟨t, cs, hg⟩⟩)
        (fun id z t n es hg => ⟨rfl, by
          rw [look] at hg
          split at hg
          · rename_i j hj
            obtain ⟨q, q', _, g2, g3, _, _, _, _, gk⟩ := at_ hj
            rw [g2m g2] at hg
            cases q' with
            | row z0 t0 n0 es0 =>
              simp only [unO, Option.some.injEq, AObj.row.injEq] at hg
              obtain ⟨rfl, rfl, rfl, rfl⟩ := hg
              cases q with
              | row z' t' n' es' =>
                have := Nat.eq_of_beq_eq_true (show Nat.beq n' n0 = true from gk)
                subst this
                exact ⟨z', t', es', g3⟩
              | box => cases gk
              | oth => cases gk
            | box => cases hg
            | oth => cases hg
          · exact ⟨z, t, es, hg⟩⟩)
        (fun id Φ hg => ⟨rfl, by
          rw [look] at hg
          split at hg
          · rename_i j hj
            obtain ⟨q, q', _, g2, g3, _, _, _, _, gk⟩ := at_ hj
            rw [g2m g2] at hg
            cases q' with
            | oth Φ0 =>
              cases q with
              | oth Φ' => exact ⟨Φ', g3⟩
              | row => cases gk
              | box => cases gk
            | row => cases hg
            | box => cases hg
          · exact ⟨Φ, hg⟩⟩)
    have live' : ∀ {id : Nat} {p : AObj}, hget (putH s.heap ids (os'.map (unO ids))) id = some p → p.live = true → ∃ q, hget s.heap id = some q ∧ q.live = true := by
      intro id p hg hl
      rw [look] at hg
      split at hg
      · rename_i j hj
        obtain ⟨q, _, _, _, g3, _, _, g6, _⟩ := at_ hj
        exact ⟨_, g3, by rw [unO_live]; exact closO_live g6⟩
      · exact ⟨p, hg, hl⟩
    -- what the callee's names stand for, for the caller
    have back : ∀ x c, ARel w' ro' (number 0 os') β' n' x c → ARel w' ro' (putH s.heap ids (os'.map (unO ids))) β s.next (unA ids x) c := by
      have nm : ∀ {j id : Nat}, ids[j]? = some id → idxOf ids id = some j ∧ id < s.next ∧ (∀ o, hget (putH s.heap ids (os'.map (unO ids))) id = some o → ∃ q', hget (number 0 os') j = some q' ∧ o = unO ids q') ∧ β' j = β id := by
        intro j id hj
        have hjl : j < ids.length := (List.getElem?_eq_some_iff.1 hj).1
        have hi : idxOf ids id = some j := by
          cases hi : idxOf ids id with
          | none => exact absurd hj (idxOf_none hi j)
          | some i =>
            have := idxOf_some hi
            rw [(List.getElem?_inj (List.getElem?_eq_some_iff.1 hj).1 hnd).1 (hj.trans this.symm)]
        obtain ⟨q, q', g1, g2, g3, _, g5, _⟩ := at_ hi
        refine ⟨hi, h.trans.new id _ g3, fun o ho => ?_, g5⟩
        rw [look, hi] at ho
        dsimp only at ho
        rw [g2m g2] at ho
        exact ⟨q', by rw [hget_number0]; exact g2, (Option.some.inj ho).symm⟩
      intro x c hx
      induction hx with
      | rv x c hx => exact .rv x c hx
      | agg cs c h1 _ ih =>
        refine .agg _ c (by rw [unL_length]; exact h1) fun j x hj => ?_
        obtain ⟨y, hy, rfl⟩ := unL_at _ hj
        exact ih j y hy
      | tuple cs c h1 _ ih =>
        refine .tuple _ c (by rw [unL_length]; exact h1) fun j x hj => ?_
        obtain ⟨y, hy, rfl⟩ := unL_at _ hj
        exact ih j y hy
      | ptr j off c hl hp =>
        simp only [unA]
        split
        · rename_i id hj
          obtain ⟨_, n2, n3, n4⟩ := nm hj
          refine .ptr id off c n2 fun t cs hg => ?_
          obtain ⟨q', m1, m2⟩ := n3 _ hg
          cases q' with
          | box t0 cs0 => rw [← n4]; exact hp t0 cs0 m1
          | row => cases m2
          | oth => cases m2
        · exact .top c
      | eptr j i off c hl hp =>
        simp only [unA]
        split
        · rename_i id hj
          obtain ⟨_, n2, n3, n4⟩ := nm hj
          refine .eptr id i off c n2 fun z t n es hg => ?_
          obtain ⟨q', m1, m2⟩ := n3 _ hg
          cases q' with
          | row z0 t0 n0 es0 =>
            simp only [unO, AObj.row.injEq] at m2
            obtain ⟨rfl, rfl, rfl, rfl⟩ := m2
            rw [← n4]
            exact hp _ _ _ _ m1
          | box => cases m2
          | oth => cases m2
        · exact .top c
      | sl j c hl hp =>
        simp only [unA]
        split
        · rename_i id hj
          obtain ⟨_, n2, n3, n4⟩ := nm hj
          refine .sl id c n2 fun z t n es hg => ?_
          obtain ⟨q', m1, m2⟩ := n3 _ hg
          cases q' with
          | row z0 t0 n0 es0 =>
            simp only [unO, AObj.row.injEq] at m2
            obtain ⟨rfl, rfl, rfl, rfl⟩ := m2
            rw [← n4]
            exact hp _ _ _ _ m1
          | box => cases m2
          | oth => cases m2
        · exact .top c
      | fn f p q c d h1 h2 _ _ ih1 ih2 =>
        refine .fn f _ _ c d (by rw [unL_length]; exact h1) (by rw [unL_length]; exact h2) (fun j x hj => ?_) (fun j x hj => ?_)
        · obtain ⟨y, hy, rfl⟩ := unL_at _ hj
          exact ih1 j y hy
        · obtain ⟨y, hy, rfl⟩ := unL_at _ hj
          exact ih2 j y hy
      | ref j c hl hp =>
        simp only [unA]
        split
        · rename_i id hj
          obtain ⟨_, n2, n3, n4⟩ := nm hj
          refine .ref id c n2 fun Φ hg => ?_
          obtain ⟨q', m1, m2⟩ := n3 _ hg
          cases q' with
          | oth Φ0 => rw [← n4]; exact hp Φ0 m1
          | row => cases m2
          | box => cases m2
        · exact .top c
      | top c => exact .top c
    refine hKK _ _ ⟨β, ro', RelAt.put (s := { s with heap := putH s.heap ids (os'.map (unO ids)) }) ⟨h.defers, h.size, fun i x hx => up _ _ (h.slot i x hx), ⟨fun id p hg => ?_, fun id id' p p' b hg hg' hl hl' hb hb' => ?_, fun b hb => ?_, fun b hb => hh'.lt b hb⟩, h.glob.keep hro ht'.roKeep, ?_, h.base⟩ o.dst _ _ (pure_rel hrel hr)⟩
    · rw [look] at hg
      split at hg
      · rename_i j hj
        obtain ⟨q, q', _, g2, g3, _, g5, _, g7, _⟩ := at_ hj
        rw [g2m g2] at hg
        simp only [Option.some.injEq] at hg
        subst hg
        have hoo := hh'.objs j q' (by rw [hget_number0]; exact g2)
        cases hoo with
        | box t cs b arr e1 e2 e3 e4 =>
          refine .box t _ b arr (by rw [← g5]; exact e1) e2 (by rw [unL_length]; exact e3) fun i x hi => ?_
          obtain ⟨y, hy, rfl⟩ := unL_at _ hi
          exact back _ _ (e4 i y hy)
        | row t n es xs e1 e2 e3 => exact .row t n es xs (by rw [← g5]; exact e1) e2 e3
        | fro t n es e1 => simp [closO] at g7
        | oth Φ b o e1 e2 e3 => exact .oth Φ b o (by rw [← g5]; exact e1) e2 (by rw [← g5]; exact e3)
      · rename_i hn
        have hoo := h.heap.objs id p hg
        cases hoo with
        | box t cs b arr e1 e2 e3 e4 =>
          have hbk : blk (β id) = some b := by rw [e1]; rfl
          exact .box t cs b arr e1 ((hframe b (ownLt id _ b hg rfl hbk) (noH hn hg rfl hbk)).trans e2) e3 fun j x hj => up _ _ (e4 j x hj)
        | row t n es xs e1 e2 e3 =>
          exact .row t n es xs (e1.keep fun b hb => hframe b (e1.blkLt hb).1 (noH hn hg rfl hb)) e2 fun j x hj => (e3 j x hj).keep hro ht'.roKeep
        | fro t n es e1 => exact .fro t n es (e1.keep hro ht'.roKeep)
        | oth Φ b o e1 e2 e3 =>
          exact .oth Φ b o e1 ((hframe b (Array.getElem?_eq_some_iff.1 e2).1 (noH hn hg rfl e1)).trans e2) (Φ.mono _ _ _ _ (fun x c h => h.keep hro ht'.roKeep) e3)
    · obtain ⟨q, hq, hql⟩ := live' hg hl
      obtain ⟨q', hq', hql'⟩ := live' hg' hl'
      exact h.heap.inj id id' q q' b hq hq' hql hql' hb hb'
    · rintro ⟨id, p, hg, hl, hbk⟩
      obtain ⟨q, hq, hql⟩ := live' hg hl
      rcases hroS b hb with hc | hc
      · exact h.heap.disj b hc ⟨id, q, hq, hql, hbk⟩
      · have := ownLt id q b hq hql hbk
        omega
    · have t := h.trans
      refine ⟨ht'.os.trans t.os, ht'.tape.trans t.tape, ht'.output.trans t.output, Nat.le_trans t.size ht'.size, fun b hbl hno => ?_, fun b hb => ?_, fun b hb => ht'.roKeep b (t.roKeep b hb), ?_, ?_, ?_, t.le⟩
      · refine (hframe b (Nat.lt_of_lt_of_le hbl t.size) fun hown => ?_).trans (t.frame b hbl hno)
        obtain ⟨id', j, hj, hbk'⟩ := ownH b hown
        obtain ⟨q, _, _, _, g3, _, _, g6, _⟩ := at_ hj
        rcases t.ownSub b ⟨id', _, g3, by rw [unO_live]; exact closO_live g6, hbk'⟩ with hc | hc
        · exact hno hc
        · omega
      · rcases hroS b hb with hc | hc
        · exact t.roSub b hc
        · exact .inr (.inr (Nat.le_trans t.size hc))
      · rintro b ⟨id, p, hg, hl, hbk⟩
        obtain ⟨q, hq, hql⟩ := live' hg hl
        exact t.ownSub b ⟨id, q, hq, hql, hbk⟩
      · intro id hid p hg
        rw [look] at hg
        split at hg
        · rename_i j hj
          obtain ⟨q, _, _, _, g3, _⟩ := at_ hj
          exact t.old id hid _ g3
        · exact t.old id hid p hg
      · intro id p hg
        rw [look] at hg
        split at hg
        · rename_i j hj
          obtain ⟨q, _, _, _, g3, _⟩ := at_ hj
          exact t.new id _ g3
        · exact t.new id p hg
theorem AOps.callX {Q : Exit → St → Prop} {ops : Array Oper} {o : Oper} {rest : List Oper} (f : FuncId) (p q : List AV) (ids : List Nat) (os os' : List AObj) (x : Operand) (xs : List Operand) (args : List AV) (r : AV)
    (hc : ACalls P G f args (number 0 os) os.length fun r1 τ1 => r1 = r ∧ τ1 = number 0 os') (k : AOps P G ops Q rest ({ s with heap := putH s.heap ids (os'.map (unO ids)) }.put o.dst r))
    (hg : gwant ops s o = some true := by as_aux_lemma => kernel_rfl) (ho : callOf o = some (x, xs) := by as_aux_lemma => kernel_rfl) (hx : aval G s x = .fn (.func f) p q := by as_aux_lemma => kernel_rfl)
    (hcb : callable P f = true := by as_aux_lemma => kernel_rfl) (hos : ids.map (hget s.heap) = os.map (fun o => some (unO ids o)) := by as_aux_lemma => kernel_rfl) (hnd : nodupB ids = true := by as_aux_lemma => kernel_rfl)
    (hp : os.all (closO os.length) = true := by as_aux_lemma => kernel_rfl) (hp' : os'.all (closO os.length) = true := by as_aux_lemma => kernel_rfl) (hk : kindsO os os' = true := by as_aux_lemma => kernel_rfl)
    (hargs : (p ++ xs.map (aval G s) ++ q).map (fun y => renA ids (viewA s.heap y)) = args := by as_aux_lemma => kernel_rfl) (hr : pureA r = true := by as_aux_lemma => kernel_rfl) : AOps P G ops Q (o :: rest) s := by
  unfold callOf at ho
  split at ho
  · rename_i c hc'
    split at ho
    · rename_i y hy
      simp only [Option.some.injEq, Prod.mk.injEq] at ho
      obtain ⟨rfl, rfl⟩ := ho
      obtain ⟨callee, zs, ts⟩ := c
      simp only at hy
      subst hy
      exact AOps.step hg (OpStep.callX hc' hx hcb hos (nodupB_spec hnd) (List.all_eq_true.1 hp) (List.all_eq_true.1 hp') hk hargs hc hr) k
    · cases ho
  · cases ho
end
end Go.Av
namespace Go.Av
open Go

def isPtr (σ : Heap) : AV → Bool
 | .ptr id _ => match hget σ id with
  | some (.box _ _) => true
  | _ => false
 | .rv (.ptr _) => true
 | _ => false
def nilOf (P : Program) (o : Oper) : Option (Operand × Bool) :=
 match o.op with
 | .binOp .eql t x (.const (.pointer none)) _ => match P.underlying t with
  | some (.pointer _) => some (x, true)
  | _ => none
 | .binOp .neq t x (.const (.pointer none)) _ => match P.underlying t with
  | some (.pointer _) => some (x, false)
  | _ => none
 | _ => none
section
variable {P : Program} {G : Glob} {o : Oper} {s : St} {Q : Exit → St → Prop}
theorem isPtr_rel {w : World} {ro : Nat → Prop} {σ : Heap} {β : Nat → Value} {N : Nat} {x : AV} {c : Value} (hx : isPtr σ x = true) (h : ARel w ro σ β N x c) : ∃ a, c = .pointer (some a) := by
 cases h with
 | ptr id off c hl hp =>
  simp only [isPtr] at hx
  split at hx
  ·rename_i t cs hg
   obtain ⟨b, _, rfl⟩ := hp t cs hg
   exact ⟨_, rfl⟩
  ·cases hx
 | rv r c hr =>
  cases hr with
  | ptr cs a f h1 h2 => exact ⟨a, rfl⟩
  | _ => simp [isPtr] at hx
 | _ => simp [isPtr] at hx
theorem und_ptr {t e : TypeId} (h : P.underlying t = some (.pointer e)) : P.underlying t = some (.pointer (P.pointee t)) := by
 rw [h]
 simp [Program.pointee, h]
theorem AOps.shlV {ops : Array Oper} {rest : List Oper} (k k' : IntKind) (a b : Int) (x y : Operand) (hb : 0 ≤ b) (h : AOps P G ops Q rest (s.put o.dst (.rv (.v (.int k (k.wrap (a * 2 ^ (min b.toNat k.bits))))))))
    (hg : gwant ops s o = some true := by as_aux_lemma => kernel_rfl) (ho : binOf o = some (.shl, x, y) := by as_aux_lemma => kernel_rfl) (hx : aval G s x = .rv (.v (.int k a)) := by as_aux_lemma => kernel_rfl) (hy : aval G s y = .rv (.v (.int k' b)) := by as_aux_lemma => kernel_rfl) : AOps P G ops Q (o :: rest) s := by
  unfold binOf at ho
  split at ho
  · rename_i op t x' y' t' ho'
    simp only [Option.some.injEq, Prod.mk.injEq] at ho
    obtain ⟨rfl, rfl, rfl⟩ := ho
    exact AOps.vstepP _ (R_bin .shl _ _ _ _ ho' hx hy (by simp only [binV]; rw [if_neg (by omega)])) h hg
  · cases ho
theorem AOps.ptrNil {ops : Array Oper} {rest : List Oper} (x : Operand) (b : Bool) (k : AOps P G ops Q rest (s.put o.dst (vb (!b))))
    (hg : gwant ops s o = some true := by as_aux_lemma => kernel_rfl) (ho : nilOf P o = some (x, b) := by as_aux_lemma => kernel_rfl) (hx : isPtr s.heap (aval G s x) = true := by as_aux_lemma => kernel_rfl) : AOps P G ops Q (o :: rest) s := by
  unfold nilOf at ho
  split at ho
  · rename_i t y t' ho'
    split at ho
    · rename_i e hu
      simp only [Option.some.injEq, Prod.mk.injEq] at ho
      obtain ⟨rfl, rfl⟩ := ho
      refine AOps.vstepP _ (fun _ a w β ro h => ?_) k hg
      obtain ⟨ad, hc⟩ := isPtr_rel hx (h.eval y)
      have hn : a.eval (.const (.pointer none)) = .pointer none := rfl
      exact ⟨.bool false, by simp [execOp, ho', hc, hn, eqGuard_at_pointer, run_eql_pointer_nil w t (some ad) (und_ptr hu)], .ofV rfl⟩
    · cases ho
  · rename_i t y t' ho'
    split at ho
    · rename_i e hu
      simp only [Option.some.injEq, Prod.mk.injEq] at ho
      obtain ⟨rfl, rfl⟩ := ho
      refine AOps.vstepP _ (fun _ a w β ro h => ?_) k hg
      obtain ⟨ad, hc⟩ := isPtr_rel hx (h.eval y)
      have hn : a.eval (.const (.pointer none)) = .pointer none := rfl
      exact ⟨.bool true, by simp [execOp, ho', hc, hn, eqGuard_at_pointer, run_neq_pointer_nil w t (some ad) (und_ptr hu)], .ofV rfl⟩
    · cases ho
  · cases ho
end

theorem Le.nilRowB {s s' : St} (id off e n : Nat) {t : TypeId} {cs : List AV} (hid : hget s.heap id = some (.box t cs)) (hk : cs[off]? = some (.rv (.v (.slice none 0 0)))) (hb : s.base ≤ s.next)
    (h : ({ s with heap := hset ((s.next, .row false e n []) :: s.heap) id (.box t (cs.set off (.sl s.next))), next := s.next + 1 } : St) = s') : Le s s' := by
  subst h
  intro E G a w ⟨β, ro, hr⟩
  have hnone : hget s.heap s.next = none := by
    cases hg : hget s.heap s.next with
    | none => rfl
    | some p => have := hr.trans.new _ _ hg; omega
  have hne : id ≠ s.next := fun h => by rw [h, hnone] at hid; cases hid
  have hnew := hr.new (w' := w) s.next hnone hb (Nat.le_refl _) (.row false e n []) (.slice none 0 0) rfl rfl rfl (Nat.le_refl _) (fun _ _ => rfl) (fun c hc => by simp [blk] at hc) rfl
    (.row e n [] [] (by rw [upd_same]; exact ⟨by simp, .inl ⟨⟨none, rfl⟩, rfl⟩⟩) (by simp) (by simp))
  have hid' : hget ((s.next, .row false e n []) :: s.heap) id = some (.box t cs) := by
    simp only [hget, if_neg (Ne.symm hne)]
    exact hid
  have hO := hnew.heap.objs id _ hid'
  cases hO with
  | box _ _ b arr h1 h2 h3 h4 =>
    refine ⟨_, ro, hnew.write id _ _ hid' rfl rfl (.inl ⟨_, _, _, rfl, rfl⟩) rfl rfl rfl (Nat.le_refl _) (fun _ _ _ => rfl) (.box t _ b arr h1 h2 (by rw [h3, List.length_set]) fun j x hj => ?_)⟩
    rw [List.getElem?_set] at hj
    split at hj
    · rename_i e1
      subst e1
      split at hj
      · simp only [Option.some.injEq] at hj
        subst hj
        have hv := ARel.val (h4 off _ hk)
        refine .sl _ _ (Nat.lt_succ_self _) fun z t' n' es' _ => ?_
        rw [hv]
        exact (upd_same _ _ _).symm
      · cases hj
    · exact hset_box_keep hid' (h4 j x hj) fun _ _ => rfl
theorem AWp.nrowB {P : Program} {G : Glob} {Q : Exit → St → Prop} {s : St} {c : Code} (id off e n t : Nat) (cs : List AV) (h : AWp P G c Q { s with heap := hset ((s.next, .row false e n []) :: s.heap) id (.box t (cs.set off (.sl s.next))), next := s.next + 1 })
    (hid : hget s.heap id = some (.box t cs) := by as_aux_lemma => kernel_rfl) (hk : cs[off]? = some (.rv (.v (.slice none 0 0))) := by as_aux_lemma => kernel_rfl) (hb : Nat.ble s.base s.next = true := by as_aux_lemma => kernel_rfl) : AWp P G c Q s :=
  AWp.le (Le.nilRowB id off e n hid hk (Nat.le_of_ble_eq_true hb) rfl) h
end Go.Av
