/- The AV calculus: pointers that are compared with nil; a nil slice in a box, as an own row. Conditions: none. -/
import Derived.Test.YtnnlaccdendkpaaVNk
import Derived.Laws.Pointers
namespace Go.Av
open Go

def isPtr (σ : Heap) : AV → Bool
 | .ptr id _ => match hget σ id with
  | some (.box _ _) => true
  | _ => false
 | .rv (.ptr _) => true
 | _ => false
def nilOf (P : Program) (o : Oper) : Option (Operand × Bool) :=
 match o.op with
 | .binOp .eql t x (.const (.pointer none)) _ => match P.underlying t with
  | some (.pointer _) => some (x, true)
  | _ => none
 | .binOp .neq t x (.const (.pointer none)) _ => match P.underlying t with
  | some (.pointer _) => some (x, false)
  | _ => none
 | _ => none
section
variable {P : Program} {G : Glob} {o : Oper} {s : St} {Q : Exit → St → Prop}
theorem isPtr_rel {w : World} {ro : Nat → Prop} {σ : Heap} {β : Nat → Value} {N : Nat} {x : AV} {c : Value} (hx : isPtr σ x = true) (h : ARel w ro σ β N x c) : ∃ a, c = .pointer (some a) := by
 cases h with
 | ptr id off c hl hp =>
  simp only [isPtr] at hx
  split at hx
  ·rename_i t cs hg
   obtain ⟨b, _, rfl⟩ := hp t cs hg
   exact ⟨_, rfl⟩
  ·cases hx
 | rv r c hr =>
  cases hr with
  | ptr cs a f h1 h2 => exact ⟨a, rfl⟩
  | _ => simp [isPtr] at hx
 | _ => simp [isPtr] at hx
theorem und_ptr {t e : TypeId} (h : P.underlying t = some (.pointer e)) : P.underlying t = some (.pointer (P.pointee t)) := by
 rw [h]
 simp [Program.pointee, h]
theorem AOps.shlV {ops : Array Oper} {rest : List Oper} (k k' : IntKind) (a b : Int) (x y : Operand) (hb : 0 ≤ b) (h : AOps P G ops Q rest (s.put o.dst (.rv (.v (.int k (k.wrap (a * 2 ^ (min b.toNat k.bits))))))))
    (hg : gwant ops s o = some true := by as_aux_lemma => kernel_rfl) (ho : binOf o = some (.shl, x, y) := by as_aux_lemma => kernel_rfl) (hx : aval G s x = .rv (.v (.int k a)) := by as_aux_lemma => kernel_rfl) (hy : aval G s y = .rv (.v (.int k' b)) := by as_aux_lemma => kernel_rfl) : AOps P G ops Q (o :: rest) s := by
  unfold binOf at ho
  split at ho
  · rename_i op t x' y' t' ho'
    simp only [Option.some.injEq, Prod.mk.injEq] at ho
    obtain ⟨rfl, rfl, rfl⟩ := ho
    exact AOps.vstepP _ (R_bin .shl _ _ _ _ ho' hx hy (by simp only [binV]; rw [if_neg (by omega)])) h hg
  · cases ho
theorem AOps.ptrNil {ops : Array Oper} {rest : List Oper} (x : Operand) (b : Bool) (k : AOps P G ops Q rest (s.put o.dst (vb (!b))))
    (hg : gwant ops s o = some true := by as_aux_lemma => kernel_rfl) (ho : nilOf P o = some (x, b) := by as_aux_lemma => kernel_rfl) (hx : isPtr s.heap (aval G s x) = true := by as_aux_lemma => kernel_rfl) : AOps P G ops Q (o :: rest) s := by
  unfold nilOf at ho
  split at ho
  · rename_i t y t' ho'
    split at ho
    · rename_i e hu
      simp only [Option.some.injEq, Prod.mk.injEq] at ho
      obtain ⟨rfl, rfl⟩ := ho
      refine AOps.vstepP _ (fun _ a w β ro h => ?_) k hg
      obtain ⟨ad, hc⟩ := isPtr_rel hx (h.eval y)
      have hn : a.eval (.const (.pointer none)) = .pointer none := rfl
      exact ⟨.bool false, by simp [execOp, ho', hc, hn, eqGuard_at_pointer, run_eql_pointer_nil w t (some ad) (und_ptr hu)], .ofV rfl⟩
    · cases ho
  · rename_i t y t' ho'
    split at ho
    · rename_i e hu
      simp only [Option.some.injEq, Prod.mk.injEq] at ho
      obtain ⟨rfl, rfl⟩ := ho
      refine AOps.vstepP _ (fun _ a w β ro h => ?_) k hg
      obtain ⟨ad, hc⟩ := isPtr_rel hx (h.eval y)
      have hn : a.eval (.const (.pointer none)) = .pointer none := rfl
      exact ⟨.bool true, by simp [execOp, ho', hc, hn, eqGuard_at_pointer, run_neq_pointer_nil w t (some ad) (und_ptr hu)], .ofV rfl⟩
    · cases ho
  · cases ho
end

theorem Le.nilRowB {s s' : St} (id off e n : Nat) {t : TypeId} {cs : List AV} (hid : hget s.heap id = some (.box t cs)) (hk : cs[off]? = some (.rv (.v (.slice none 0 0)))) (hb : s.base ≤ s.next)
    (h : ({ s with heap := hset ((s.next, .row false e n []) :: s.heap) id (.box t (cs.set off (.sl s.next))), next := s.next + 1 } : St) = s') : Le s s' := by
  subst h
  intro E G a w ⟨β, ro, hr⟩
  have hnone : hget s.heap s.next = none := by
    cases hg : hget s.heap s.next with
    | none => rfl
    | some p => have := hr.trans.new _ _ hg; omega
  have hne : id ≠ s.next := fun h => by rw [h, hnone] at hid; cases hid
  have hnew := hr.new (w' := w) s.next hnone hb (Nat.le_refl _) (.row false e n []) (.slice none 0 0) rfl rfl rfl (Nat.le_refl _) (fun _ _ => rfl) (fun c hc => by simp [blk] at hc) rfl
    (.row e n [] [] (by rw [upd_same]; exact ⟨by simp, .inl ⟨⟨none, rfl⟩, rfl⟩⟩) (by simp) (by simp))
  have hid' : hget ((s.next, .row false e n []) :: s.heap) id = some (.box t cs) := by
    simp only [hget, if_neg (Ne.symm hne)]
    exact hid
  have hO := hnew.heap.objs id _ hid'
  cases hO with
  | box _ _ b arr h1 h2 h3 h4 =>
    refine ⟨_, ro, hnew.write id _ _ hid' rfl rfl (.inl ⟨_, _, _, rfl, rfl⟩) rfl rfl rfl (Nat.le_refl _) (fun _ _ _ => rfl) (.box t _ b arr h1 h2 (by rw [h3, List.length_set]) fun j x hj => ?_)⟩
    rw [List.getElem?_set] at hj
    split at hj
    · rename_i e1
      subst e1
      split at hj
      · simp only [Option.some.injEq] at hj
        subst hj
        have hv := ARel.val (h4 off _ hk)
        refine .sl _ _ (Nat.lt_succ_self _) fun z t' n' es' _ => ?_
        rw [hv]
        exact (upd_same _ _ _).symm
      · cases hj
    · exact hset_box_keep hid' (h4 j x hj) fun _ _ => rfl
theorem AWp.nrowB {P : Program} {G : Glob} {Q : Exit → St → Prop} {s : St} {c : Code} (id off e n t : Nat) (cs : List AV) (h : AWp P G c Q { s with heap := hset ((s.next, .row false e n []) :: s.heap) id (.box t (cs.set off (.sl s.next))), next := s.next + 1 })
    (hid : hget s.heap id = some (.box t cs) := by as_aux_lemma => kernel_rfl) (hk : cs[off]? = some (.rv (.v (.slice none 0 0))) := by as_aux_lemma => kernel_rfl) (hb : Nat.ble s.base s.next = true := by as_aux_lemma => kernel_rfl) : AWp P G c Q s :=
  AWp.le (Le.nilRowB id off e n hid hk (Nat.le_of_ble_eq_true hb) rfl) h
end Go.Av
