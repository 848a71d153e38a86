/- The AV calculus, part N: ranging over a string. Conditions: none. -/
import Derived.Test.YtjgpnceaicijcaaPMm
namespace Go.Av
open Go

/-- An iterator over a string, at a place. -/
def strIt (s : ByteArray) (pos : Nat) : Oth := ⟨fun _ v o => (∃ b, v = .pointer (some ⟨b, 0, none⟩)) ∧ o = .stringIter s pos, fun _ _ _ _ _ h => h, none, fun _ h => by cases h⟩

section
variable {P : Program} {G : Glob} {o : Oper} {s : St}

theorem run_newObj (ob : Obj) (w : World) : (newObj ob).run P w = .ok w.heap.size (w.alloc ob) := rfl
theorem run_getObj_it {w : World} {r : Nat} {b : ByteArray} {p : Nat} (h : w.heap[r]? = some (.stringIter b p)) : (getObj r).run P w = .ok (.stringIter b p) w := by simp [getObj, Sem.run, h]
theorem run_setObj_it {w : World} {r : Nat} {b : ByteArray} {p : Nat} (ob : Obj) (h : w.heap[r]? = some (.stringIter b p)) : (setObj r ob).run P w = .ok () { w with heap := w.heap.setIfInBounds r ob } := by simp [setObj, Sem.run, h]

theorem R_range_str (t : TypeId) (x : Operand) (ho : o.op = .range t x) (ht : P.underlying t = some .string) {b : ByteArray} (hx : aval G s x = .rv (.v (.string b))) (hb : s.base ≤ s.next) :
    OpStep P G o s ({ s with heap := (s.next, .oth (strIt b 0)) :: s.heap, next := s.next + 1 }.put o.dst (.ref s.next)) := by
  intro E a w ⟨β, ro, hr⟩ K Q hK
  unfold Oper.wp
  simp only [execOp, ho, hr.evalV hx, Sem.run_bind, Instr.range, run_underlying ht, Result.andThen_ok, Sem.run_pure]
  have hnone : hget s.heap s.next = none := by
    cases hg : hget s.heap s.next with
    | none => rfl
    | some p => have := hr.trans.new _ _ hg; omega
  have hnew := hr.new (w' := w.alloc (.stringIter b 0)) s.next hnone hb (Nat.le_refl _) (.oth (strIt b 0)) (.pointer (some ⟨w.heap.size, 0, none⟩)) rfl rfl rfl (by simp) (fun b hb => Go.RowKit.Below.heap_alloc w _ b hb) (fun b hb => by simp [blk] at hb; omega) rfl
    (.oth _ w.heap.size (.stringIter b 0) (by rw [upd_same]; rfl) (heap_alloc_new w _) ⟨⟨_, upd_same _ _ _⟩, rfl⟩)
  have hk := hK _ _ ⟨_, ro, hnew.put o.dst (.ref s.next) (.pointer (some ⟨w.heap.size, 0, none⟩)) (.ref _ _ (Nat.lt_succ_self _) fun Φ _ => (upd_same _ _ _).symm)⟩
  rw [run_newObj]
  exact hk

theorem R_next_end (x : Operand) (ho : o.op = .next x true) {id : Nat} (hx : aval G s x = .ref id) {b : ByteArray} {pos : Nat} (hid : hget s.heap id = some (.oth (strIt b pos))) (hp : b.size ≤ pos) :
    VStep P G o s (.tuple [.rv (.v (.bool false))]) :=
  fun E a w β ro hr => by
    have hO := hr.heap.objs id _ hid
    cases hO with
    | oth _ bl ob h1 h2 h3 =>
      obtain ⟨⟨b', hb'⟩, rfl⟩ := h3
      have hev := hr.eval x
      rw [hx] at hev
      generalize he : a.eval x = c at hev
      cases hev with
      | ref _ _ _ hc =>
        have hcv := hc _ hid
        rw [hb'] at h1 hcv
        simp only [blk, Option.some.injEq] at h1
        subst h1
        refine ⟨.tuple #[.bool false], ?_, .tuple _ _ rfl fun j y hj => ?_⟩
        · have hn : ¬ pos < b.size := by omega
          rw [hcv] at he
          simp [execOp, ho, he, Instr.next, run_getObj_it h2, hn]
        · cases j with
          | zero => simp at hj; subst hj; exact .ofV rfl
          | succ j => simp at hj

theorem R_next (x : Operand) (ho : o.op = .next x true) {id : Nat} (hx : aval G s x = .ref id) {b : ByteArray} {pos : Nat} (hid : hget s.heap id = some (.oth (strIt b pos))) (hp : pos < b.size) {c k : Nat} (hd : Utf8.decode b pos = (c, k)) :
    OpStep P G o s ({ s with heap := hset s.heap id (.oth (strIt b (pos + k))) }.put o.dst (.tuple [.rv (.v (.bool true)), .rv (.v (.int .i64 (pos : Int))), .rv (.v (.int .i32 (c : Int)))])) := by
  intro E a w ⟨β, ro, hr⟩ K Q hK
  have hO := hr.heap.objs id _ hid
  cases hO with
  | oth _ bl ob h1 h2 h3 =>
    obtain ⟨⟨b', hb'⟩, rfl⟩ := h3
    have hev := hr.eval x
    rw [hx] at hev
    generalize he : a.eval x = cv at hev
    cases hev with
    | ref _ _ _ hc =>
      have hcv := hc _ hid
      have hb2 := h1
      rw [hb'] at h1 hcv
      simp only [blk, Option.some.injEq] at h1
      subst h1
      rw [hcv] at he
      unfold Oper.wp
      have hrun : (execOp a.eval o).run P w = .ok (.value (.tuple #[.bool true, goInt pos, .int .i32 c])) { w with heap := w.heap.setIfInBounds b' (.stringIter b (pos + k)) } := by
        simp [execOp, ho, he, Instr.next, run_getObj_it h2, hp, hd, run_setObj_it _ h2]
      rw [hrun]
      have hlt := (Array.getElem?_eq_some_iff.1 h2).1
      have hw := hr.write (w' := { w with heap := w.heap.setIfInBounds b' (.stringIter b (pos + k)) }) id _ (.oth (strIt b (pos + k))) hid rfl rfl (.inr (.inr ⟨_, _, rfl, rfl⟩)) rfl rfl rfl (by simp) (fun j hj hne => by
        have : b' ≠ j := fun e => hne (by rw [hb', ← e]; rfl)
        simp [Array.getElem?_setIfInBounds_ne this]) (.oth _ b' (.stringIter b (pos + k)) hb2 (by simp [hlt]) ⟨⟨b', hb'⟩, rfl⟩)
      refine hK _ _ ⟨β, ro, hw.put o.dst _ _ (.tuple _ _ rfl fun j y hj => ?_)⟩
      match j, hj with
      | 0, hj => simp at hj; subst hj; exact .ofV rfl
      | 1, hj => simp at hj; subst hj; exact .ofV rfl
      | 2, hj => simp at hj; subst hj; exact .ofV rfl
      | j + 3, hj => simp at hj
end
end Go.Av
