/- The AV calculus, part T: loops with carried state; own rows as lists. Conditions: none. -/
import Derived.Test.YtnnlaccdendkpaaVMs
namespace Go.Av
open Go

def iterN {A : Type} (b : Nat → A → A) : Nat → Nat → A → A
 | _, 0, a => a
 | k, m + 1, a => iterN b (k + 1) m (b k a)
theorem iterN_next {A : Type} {b : Nat → A → A} {k n : Nat} {a a' L : A} (h : L = iterN b k (n - k) a) (hk : k < n) (hb : b k a = a') : L = iterN b (k + 1) (n - (k + 1)) a' := by
 rw [h, show n - k = (n - (k + 1)) + 1 from by omega, ← hb]
 rfl
theorem iterN_end {A : Type} {b : Nat → A → A} {k n : Nat} {a L : A} (h : L = iterN b k (n - k) a) (hk : n ≤ k) : a = L := by
 rw [h, show n - k = 0 from by omega]
 rfl

section
variable {P : Program} {G : Glob} {o : Oper} {s : St}
theorem R_indexAddrRow {α : Type} (C : α → List RV) (l : List α) (id n j : Nat) {bt t : TypeId} {x i : Operand} (ho : o.op = .indexAddr t x i) (ht : elemSize P t = some n) (hi : aval G s i = .rv (.v (.int .i64 (j : Int)))) (hx : aval G s x = .sl id)
    (hid : hget s.heap id = some (.row false bt n (l.map C))) (hj : j < l.length) : VStep P G o s (.eptr id j 0) :=
  R_indexAddr t x i ho ht hi (by rw [hx]; simp [aelem, hid, hj])
theorem R_lenRow {α : Type} (C : α → List RV) (l : List α) (id n : Nat) {bt : TypeId} {x : Operand} {t : TypeId} (ho : o.op = .call { callee := .builtin .len, args := #[x], argTypes := #[t] }) (ht : isSlice P t = true) (hx : aval G s x = .sl id)
    (hid : hget s.heap id = some (.row false bt n (l.map C))) : VStep P G o s (.rv (.v (.int .i64 (l.length : Int)))) :=
  R_len x t ho ht (by rw [hx]; simp [alen, hid])
theorem R_loadRow {α : Type} (C : α → List RV) (l : List α) (id n j off k : Nat) {bt t : TypeId} {x : Operand} (ho : o.op = .load t x) (ht : aggSize P t = some k) (hx : aval G s x = .eptr id j off)
    (hid : hget s.heap id = some (.row false bt n (l.map C))) {e : α} (he : l[j]? = some e) (hk : Nat.ble k ((C e).drop off).length = true) (h0 : Nat.ble 1 k = true) {v : List AV} (hv : (((C e).drop off).map AV.rv).take k = v) : VStep P G o s (.agg v) := by
  subst hv
  exact R_load_agg t x ho ht (cs := ((C e).drop off).map AV.rv) (by rw [hx]; simp [acells, hid, he]) (by simpa using Nat.le_of_ble_eq_true hk) (Nat.le_of_ble_eq_true h0)
theorem R_loadRow1 {α : Type} (C : α → List RV) (l : List α) (id n j off : Nat) {bt t : TypeId} {x : Operand} (ho : o.op = .load t x) (ht : scalar P t = true) (hx : aval G s x = .eptr id j off)
    (hid : hget s.heap id = some (.row false bt n (l.map C))) {e : α} (he : l[j]? = some e) {v : RV} {vs : List RV} (hv : (C e).drop off = v :: vs) : VStep P G o s (.rv v) :=
  R_load t x ho ht (cs := vs.map AV.rv) (by rw [hx]; simp [acells, hid, he, hv])
theorem R_storeRow {α : Type} (C : α → List RV) (l : List α) (id n j off : Nat) {bt t : TypeId} {p x : Operand} (ho : o.op = .store t p x) (hp : aval G s p = .eptr id j off) (hid : hget s.heap id = some (.row false bt n (l.map C)))
    {e : α} (he : l[j]? = some e) (e' : α) {vs : List RV} (hv : rvs (vcells (aval G s x)) = some vs) (hsz : (P.info? t).map (·.size) = some vs.length) (hfit : Nat.ble (off + vs.length) n = true) (hs : splice (C e) off vs = C e') :
    OpStep P G o s ({ s with heap := hset s.heap id (.row false bt n ((l.set j e').map C)) }.put o.dst .top) := by
  have := R_store_row t p x ho hp hid (e := C e) (by simp [he]) hv hsz (Nat.le_of_ble_eq_true hfit)
  rw [hs, ← List.map_set] at this
  exact this
end
theorem Le.nilRow {s s' : St} (k e n : Nat) (hk : s.slots[k]? = some (.rv (.v (.slice none 0 0)))) (hb : s.base ≤ s.next)
    (h : ({ s with slots := s.slots.set k (.sl s.next), heap := (s.next, .row false e n []) :: s.heap, next := s.next + 1 } : St) = s') : Le s s' := by
  subst h
  intro E G a w ⟨β, ro, hr⟩
  have hnone : hget s.heap s.next = none := by
    cases hg : hget s.heap s.next with
    | none => rfl
    | some p => have := hr.trans.new _ _ hg; omega
  have hval := ARel.val (hr.slot k _ hk)
  have hnew := hr.new (w' := w) s.next hnone hb (Nat.le_refl _) (.row false e n []) (.slice none 0 0) rfl rfl rfl (Nat.le_refl _) (fun _ _ => rfl) (fun c hc => by simp [blk] at hc) rfl
    (.row e n [] [] (by rw [upd_same]; exact ⟨by simp, .inl ⟨⟨none, rfl⟩, rfl⟩⟩) (by simp) (by simp))
  refine ⟨_, ro, hnew.defers, by simpa using hnew.size, fun i y hy => ?_, hnew.heap, hnew.glob, hnew.trans, hnew.base⟩
  rw [List.getElem?_set] at hy
  split at hy
  · rename_i e1
    subst e1
    split at hy
    · simp only [Option.some.injEq] at hy
      subst hy
      refine .sl _ _ (Nat.lt_succ_self _) fun z t' n' es' _ => ?_
      rw [hval]
      exact (upd_same _ _ _).symm
    · cases hy
  · exact hnew.slot i y hy
end Go.Av
namespace Go.Av
open Go

def lendV (σ : Heap) : AV → Option RV
 | .rv x => some x
 | .sl id => match hget σ id with
  | some (.row _ _ n es) => some (.sl n es)
  | _ => none
 | .ref id => match hget σ id with
  | some (.oth Φ) => Φ.view
  | _ => none
 | _ => none
def lendVs (σ : Heap) : List AV → Option (List RV)
 | [] => some []
 | x :: r => match lendV σ x, lendVs σ r with
  | some y, some l => some (y :: l)
  | _, _ => none
mutual
def lendA (σ : Heap) : AV → AV
 | .sl id => match hget σ id with
  | some (.row _ _ n es) => .rv (.sl n es)
  | _ => .sl id
 | .ptr id off => match hget σ id with
  | some (.box _ cs) => (match lendVs σ (cs.drop off) with
   | some l => .rv (.ptr l)
   | none => .ptr id off)
  | _ => .ptr id off
 | .agg cs => .agg (lendL σ cs)
 | .tuple cs => .tuple (lendL σ cs)
 | .fn f p q => .fn f (lendL σ p) (lendL σ q)
 | .rv x => .rv x
 | .eptr id i off => .eptr id i off
 | .ref id => match hget σ id with
  | some (.oth Φ) => (match Φ.view with
   | some x => .rv x
   | none => .ref id)
  | _ => .ref id
 | .top => .top
def lendL (σ : Heap) : List AV → List AV
 | [] => []
 | x :: r => lendA σ x :: lendL σ r
end
theorem lendL_length (σ : Heap) : ∀ (l : List AV), (lendL σ l).length = l.length
 | [] => rfl
 | x :: r => by simp [lendL, lendL_length σ r]
theorem lendL_at (σ : Heap) : ∀ {l : List AV} {j : Nat} {x : AV}, (lendL σ l)[j]? = some x → ∃ y, l[j]? = some y ∧ x = lendA σ y
 | [], j, x, h => by simp [lendL] at h
 | y :: r, j, x, h => by
  cases j with
  | zero => simp [lendL] at h; exact ⟨y, by simp, h.symm⟩
  | succ j => simp [lendL] at h; simpa using lendL_at σ h
theorem lendVs_at (σ : Heap) : ∀ {l : List AV} {m : List RV}, lendVs σ l = some m → ∀ {j : Nat} {x : RV}, m[j]? = some x → ∃ y, l[j]? = some y ∧ lendV σ y = some x
 | [], m, h, j, x, hj => by simp [lendVs] at h; subst h; simp at hj
 | y :: r, m, h, j, x, hj => by
  simp only [lendVs] at h
  split at h
  ·rename_i z l h1 h2
   simp only [Option.some.injEq] at h
   subst h
   cases j with
   | zero => simp at hj; subst hj; exact ⟨y, rfl, h1⟩
   | succ j => simp at hj; simpa using lendVs_at σ h2 hj
  ·cases h

abbrev lent (ro : Nat → Prop) (σ : Heap) (β : Nat → Value) : Nat → Prop := fun b => ro b ∨ Own σ β b

theorem lend_row {w : World} {ro : Nat → Prop} {σ : Heap} {β : Nat → Value} {N id : Nat} (hh : HRel w ro σ β N) {z : Bool} {t : TypeId} {n : Nat} {es : List (List RV)} (hg : hget σ id = some (.row z t n es)) : RRel w (lent ro σ β) (.sl n es) (β id) := by
 have ho := hh.objs id _ hg
 cases ho with
 | row t n es xs h1 h2 h3 => exact h1.asRV h2 (fun j x hj => (h3 j x hj).keep (fun _ _ => rfl) fun _ h => .inl h) fun b hb => .inr ⟨id, _, hg, rfl, hb⟩
 | fro t n es h1 => exact h1.keep (fun _ _ => rfl) fun _ h => .inl h
theorem lend_oth {w : World} {ro : Nat → Prop} {σ : Heap} {β : Nat → Value} {N id : Nat} (hh : HRel w ro σ β N) {Φ : Oth} (hg : hget σ id = some (.oth Φ)) {rv : RV} (hv : Φ.view = some rv) : RRel w (lent ro σ β) rv (β id) := by
 have ho := hh.objs id _ hg
 cases ho with
 | oth _ b o h1 h2 h3 => exact Φ.viewOk rv hv w ro _ _ o b h3 h1 h2 (fun _ h => .inl h) (.inr ⟨id, _, hg, rfl, h1⟩)
theorem lendV_rel {w : World} {ro : Nat → Prop} {σ : Heap} {β : Nat → Value} {N : Nat} (hh : HRel w ro σ β N) {x : AV} {c : Value} {y : RV} (h : ARel w ro σ β N x c) (hy : lendV σ x = some y) : RRel w (lent ro σ β) y c := by
 cases h with
 | rv x c hx =>
  simp only [lendV, Option.some.injEq] at hy
  subst hy
  exact hx.keep (fun _ _ => rfl) fun _ h => .inl h
 | sl id c hl hp =>
  simp only [lendV] at hy
  split at hy
  ·rename_i z t n es hg
   simp only [Option.some.injEq] at hy
   subst hy
   rw [hp z t n es hg]
   exact lend_row hh hg
  ·cases hy
 | ref id c hl hp =>
  simp only [lendV] at hy
  split at hy
  ·rename_i Φ hg
   rw [hp Φ hg]
   exact lend_oth hh hg hy
  ·cases hy
 | _ => cases hy

theorem lend_rel {w : World} {ro : Nat → Prop} {σ : Heap} {β : Nat → Value} {N : Nat} (hh : HRel w ro σ β N) {x : AV} {c : Value} (h : ARel w ro σ β N x c) : ARel w (lent ro σ β) σ β N (lendA σ x) c := by
 induction h with
 | sl id c hl hp =>
  simp only [lendA]
  split
  ·rename_i z t n es hg
   rw [hp z t n es hg]
   exact .rv _ _ (lend_row hh hg)
  ·exact .sl id c hl hp
 | ptr id off c hl hp =>
  simp only [lendA]
  split
  ·rename_i t cs hg
   split
   ·rename_i l hlv
    obtain ⟨b, hb, rfl⟩ := hp t cs hg
    have ho := hh.objs id _ hg
    cases ho with
    | box t cs b' arr e1 e2 e3 e4 =>
     rw [hb] at e1
     simp only [Value.pointer.injEq, Option.some.injEq, Addr.mk.injEq, and_true] at e1
     subst e1
     have at_ : ∀ j x, l[j]? = some x → ∃ y, cs[off + j]? = some y ∧ lendV σ y = some x := fun j x hj => by
      obtain ⟨y, h1, h2⟩ := lendVs_at σ hlv hj
      rw [List.getElem?_drop] at h1
      exact ⟨y, h1, h2⟩
     refine .rv _ _ (.ptr l _ (fun j => arr.getD (off + j) undef) (fun j x hj => ?_) fun j x hj => ?_)
     ·obtain ⟨y, h1, _⟩ := at_ j x hj
      refine ⟨.inr ⟨id, _, hg, rfl, by rw [hb]; rfl⟩, ?_⟩
      have hlt : off + j < arr.size := by rw [e3]; exact (List.getElem?_eq_some_iff.1 h1).1
      rw [addLit, cell_of_row w b (off + j) arr t (0, 0) e2]
      simp [hlt]
     ·obtain ⟨y, h1, h2⟩ := at_ j x hj
      exact lendV_rel hh (e4 _ y h1) h2
   ·exact .ptr id off c hl hp
  ·exact .ptr id off c hl hp
 | rv x c h => exact .rv x c (h.keep (fun _ _ => rfl) fun _ h => .inl h)
 | agg cs c h1 _ ih =>
  refine .agg _ c (by rw [lendL_length]; exact h1) fun j x hj => ?_
  obtain ⟨y, hy, rfl⟩ := lendL_at σ hj
  exact ih j y hy
 | tuple cs c h1 _ ih =>
  refine .tuple _ c (by rw [lendL_length]; exact h1) fun j x hj => ?_
  obtain ⟨y, hy, rfl⟩ := lendL_at σ hj
  exact ih j y hy
 | eptr id i off c h1 h2 => exact .eptr id i off c h1 h2
 | fn f p q c d h1 h2 _ _ ih1 ih2 =>
  refine .fn f _ _ c d (by rw [lendL_length]; exact h1) (by rw [lendL_length]; exact h2) (fun j x hj => ?_) (fun j x hj => ?_)
  ·obtain ⟨y, hy, rfl⟩ := lendL_at σ hj
   exact ih1 j y hy
  ·obtain ⟨y, hy, rfl⟩ := lendL_at σ hj
   exact ih2 j y hy
 | ref id c hl hp =>
  simp only [lendA]
  split
  ·rename_i Φ hg
   split
   ·rename_i rv hv
    rw [hp Φ hg]
    exact .rv _ _ (lend_oth hh hg hv)
   ·exact .ref id c hl hp
  ·exact .ref id c hl hp
 | top c => exact .top c

mutual
def scalA : AV → Bool
 | .rv (.v _) => true
 | .agg cs => scalL cs
 | .tuple cs => scalL cs
 | _ => false
def scalL : List AV → Bool
 | [] => true
 | x :: r => scalA x && scalL r
end
theorem scalL_at : ∀ {cs : List AV}, scalL cs = true → ∀ {j : Nat} {x : AV}, cs[j]? = some x → scalA x = true
 | [], _, j, x, h => by simp at h
 | y :: r, hb, j, x, h => by
  simp only [scalL, Bool.and_eq_true] at hb
  cases j with
  | zero => simp at h; subst h; exact hb.1
  | succ j => simp at h; exact scalL_at hb.2 h
theorem scal_rel {w w' : World} {ro ro' : Nat → Prop} {σ τ : Heap} {β γ : Nat → Value} {N M : Nat} {x : AV} {c : Value} (h : ARel w ro σ β N x c) (hp : scalA x = true) : ARel w' ro' τ γ M x c := by
 induction h with
 | rv x c h =>
  cases h with
  | v _ hx => exact .rv _ _ (.v _ hx)
  | ptr => simp [scalA] at hp
  | sl => simp [scalA] at hp
  | mp => simp [scalA] at hp
 | agg cs c h1 _ ih =>
  simp only [scalA] at hp
  exact .agg cs c h1 fun j x hj => ih j x hj (scalL_at hp hj)
 | tuple cs c h1 _ ih =>
  simp only [scalA] at hp
  exact .tuple cs c h1 fun j x hj => ih j x hj (scalL_at hp hj)
 | _ => simp [scalA] at hp

section
variable {P : Program} {G : Glob} {s : St}
theorem OpStep.callB {o : Oper} {x : Operand} {xs : Array Operand} {ts : Array TypeId} (ho : o.op = .call { callee := .value x, args := xs, argTypes := ts }) {f : FuncId} {p q : List AV} (hx : aval G s x = .fn (.func f) p q)
    (hcb : callable P f = true) {args : List AV} (hargs : lendL s.heap (p ++ xs.toList.map (aval G s) ++ q) = args) (hpure : pureL args = true) {r : AV} (hc : ACalls P G f args [] 0 fun r1 τ1 => r1 = r ∧ τ1 = []) (hsc : scalA r = true) :
    OpStep P G o s (s.put o.dst r) := by
  intro E a w ⟨β, ro, h⟩ KK QQ hKK
  have hfx := h.eval x
  rw [hx] at hfx
  generalize he : a.eval x = fv at hfx
  cases hfx with
  | fn _ _ _ c d h1 h2 hp hq =>
    unfold Oper.wp
    simp only [execOp, ho, resolve, he, Deferred.ofValue, Sem.run_bind, Sem.run_pure, Result.andThen_ok, invoke]
    rw [callable_run hcb]
    have ownLt : ∀ b, Own s.heap β b → b < w.heap.size := fun b ⟨k, p, hk, hp, hbk⟩ => (h.heap.objs k p hk).blkLt hp hbk
    have hlen : args.length = p.length + xs.size + q.length := by rw [← hargs, lendL_length]; simp [Nat.add_assoc]
    have hall : ∀ i y, (p ++ xs.toList.map (aval G s) ++ q)[i]? = some y → ARel w ro s.heap β s.next y ((c ++ xs.map a.eval ++ d).getD i undef) := fun i y hy => by
      rw [Array.getD_eq_getD_getElem?]
      rcases Nat.lt_or_ge i (p.length + xs.size) with hi | hi
      · rw [List.getElem?_append_left (by simpa using hi)] at hy
        rw [Array.getElem?_append_left (by simpa [h1] using hi)]
        rcases Nat.lt_or_ge i p.length with hi2 | hi2
        · rw [List.getElem?_append_left hi2] at hy
          rw [Array.getElem?_append_left (by omega), ← Array.getD_eq_getD_getElem?]
          exact hp i y hy
        · rw [List.getElem?_append_right hi2, List.getElem?_map] at hy
          rw [Array.getElem?_append_right (by omega), h1]
          cases hz : xs.toList[i - p.length]? with
          | none => simp [hz] at hy
          | some z =>
            simp only [hz, Option.map_some, Option.some.injEq] at hy
            subst hy
            have hz' : xs[i - p.length]? = some z := by simpa using hz
            simp only [Array.getElem?_map, hz', Option.map_some, Option.getD_some]
            exact h.eval z
      · rw [List.getElem?_append_right (by simpa using hi)] at hy
        rw [Array.getElem?_append_right (by simpa [h1] using hi), ← Array.getD_eq_getD_getElem?]
        have := hq _ y hy
        simpa [h1] using this
    have hcall := hc w β (lent ro s.heap β) (c ++ xs.map a.eval ++ d) (by simp only [Array.size_append, Array.size_map]; omega) (fun i y hy => by
        rw [← hargs] at hy
        obtain ⟨z, hz, rfl⟩ := lendL_at _ hy
        exact pure_rel (lend_rel h.heap (hall i z hz)) (pureL_at hpure (by rw [← hargs]; exact hy))) ⟨by simp [hget], by simp [hget], fun b _ ⟨_, _, hg, _⟩ => by simp [hget] at hg, fun b hb => hb.elim (h.heap.lt b) (ownLt b)⟩
        (fun g cs hg => (h.glob g cs hg).keep (fun _ _ => rfl) fun _ h => .inl h) (by simp [hget])
    refine Calls.mono hcall fun e w' hq => ?_
    obtain ⟨v, r', τ', β', ro', n', rfl, ⟨rfl, rfl⟩, hrel, hh', ht'⟩ := hq
    have noOwn : ∀ b, ¬ Own ([] : Heap) β b := fun b ⟨_, _, hg, _⟩ => by simp [hget] at hg
    have hframe : ∀ b, b < w.heap.size → w'.heap[b]? = w.heap[b]? := fun b hb => ht'.frame b hb (noOwn b)
    have hg := h.grow (w' := w') (ro' := ro) ht'.os ht'.tape ht'.output ht'.size hframe (fun _ h => h) (fun _ h => .inl h)
    exact hKK _ _ ⟨β, ro, hg.put o.dst _ _ (scal_rel hrel hsc)⟩
theorem R_makeFunc {o : Oper} {f : FuncId} {p q : Array Operand} (ho : o.op = .makeFunc (.func f) p q) : VStep P G o s (.fn (.func f) (p.toList.map (aval G s)) (q.toList.map (aval G s))) :=
 fun _ a w β ro hr => by
  refine ⟨.func (.func f) (p.map a.eval) (q.map a.eval), by simp [execOp, ho, Instr.makeFunc], .fn _ _ _ _ _ (by simp) (by simp) (fun j x hj => ?_) (fun j x hj => ?_)⟩ <;>
  ·rw [List.getElem?_map] at hj
   rw [Array.getD_eq_getD_getElem?, Array.getElem?_map]
   simp only [Array.getElem?_toList] at hj
   obtain ⟨z, hz, rfl⟩ := Option.map_eq_some_iff.1 hj
   simp only [hz, Option.map_some, Option.getD_some]
   exact hr.eval z
end
end Go.Av
