/- The AV calculus, part W: loops that carry, return and break; results that are own rows. Conditions: none. -/
import Derived.Test.YtjgpnceaicijcaaPMv
import Derived.LoopN
namespace Go.Av
open Go

/-- One round of a loop: it returns, it breaks off, it goes on. -/
inductive Step (R A : Type) where
  | ret (r : R)
  | brk (a : A)
  | nxt (a : A)
/-- A loop that carries a state and may return. -/
def loopS {R A : Type} (b : Nat → A → Step R A) : Nat → Nat → A → R ⊕ A
  | _, 0, a => .inr a
  | k, m + 1, a => match b k a with
    | .ret r => .inl r
    | .brk a => .inr a
    | .nxt a => loopS b (k + 1) m a
theorem loopS_next {R A : Type} {b : Nat → A → Step R A} {k n : Nat} {a a' : A} {L : R ⊕ A} (h : L = loopS b k (n - k) a) (hk : k < n) (hb : b k a = .nxt a') : L = loopS b (k + 1) (n - (k + 1)) a' := by
  rw [h, show n - k = (n - (k + 1)) + 1 from by omega]
  simp [loopS, hb]
theorem loopS_ret {R A : Type} {b : Nat → A → Step R A} {k n : Nat} {a : A} {r : R} {L : R ⊕ A} (h : L = loopS b k (n - k) a) (hk : k < n) (hb : b k a = .ret r) : L = .inl r := by
  rw [h, show n - k = (n - k - 1) + 1 from by omega]
  simp [loopS, hb]
theorem loopS_end {R A : Type} {b : Nat → A → Step R A} {k n : Nat} {a : A} {L : R ⊕ A} (h : L = loopS b k (n - k) a) (hk : n ≤ k) : L = .inr a := by
  rw [h, show n - k = 0 from by omega]
  rfl
/-- A loop that carries a state and may break off. -/
def iterB {A : Type} (b : Nat → A → Step Unit A) : Nat → Nat → A → A
  | _, 0, a => a
  | k, m + 1, a => match b k a with
    | .ret _ => a
    | .brk a => a
    | .nxt a => iterB b (k + 1) m a
theorem iterB_next {A : Type} {b : Nat → A → Step Unit A} {k n : Nat} {a a' L : A} (h : L = iterB b k (n - k) a) (hk : k < n) (hb : b k a = .nxt a') : L = iterB b (k + 1) (n - (k + 1)) a' := by
  rw [h, show n - k = (n - (k + 1)) + 1 from by omega]
  simp [iterB, hb]
theorem iterB_brk {A : Type} {b : Nat → A → Step Unit A} {k n : Nat} {a a' L : A} (h : L = iterB b k (n - k) a) (hk : k < n) (hb : b k a = .brk a') : a' = L := by
  rw [h, show n - k = (n - k - 1) + 1 from by omega]
  simp [iterB, hb]
theorem iterB_end {A : Type} {b : Nat → A → Step Unit A} {k n : Nat} {a L : A} (h : L = iterB b k (n - k) a) (hk : n ≤ k) : a = L := by
  rw [h, show n - k = 0 from by omega]
  rfl

/-- What holds at each round, and what holds at the end. -/
theorem iterB_inv {A : Type} {b : Nat → A → Step Unit A} (I J : A → Prop) (hIJ : ∀ a, I a → J a) (hn : ∀ k a a', I a → b k a = .nxt a' → I a') (hb : ∀ k a a', I a → b k a = .brk a' → J a') : ∀ (m k : Nat) (a : A), I a → J (iterB b k m a)
  | 0, _, a, ha => hIJ a ha
  | m + 1, k, a, ha => by
    unfold iterB
    cases h : b k a with
    | ret _ => exact hIJ a ha
    | brk a' => exact hb k a a' ha h
    | nxt a' => exact iterB_inv I J hIJ hn hb m (k + 1) a' (hn k a a' ha h)
theorem iterN_inv {A : Type} {b : Nat → A → A} (I : A → Prop) (h : ∀ k a, I a → I (b k a)) : ∀ (m k : Nat) (a : A), I a → I (iterN b k m a)
  | 0, _, _, ha => ha
  | m + 1, k, a, ha => iterN_inv I h m (k + 1) (b k a) (h k a ha)
/-- A result that is one own row, by its first name. -/
theorem ACalls.row0 {P : Program} {G : Glob} {f : FuncId} {args : List AV} {t : TypeId} {n : Nat} {es : List (List RV)} {ps : List AV} (hp : pureL ps = true) (tup : Bool)
    (h : ACalls P G f args [] 0 fun r τ => ∃ k, r = (match tup with | true => AV.tuple (.sl k :: ps) | false => .sl k) ∧ τ = [(k, .row false t n es)]) :
    ACalls P G f args [] 0 fun r τ => r = (match tup with | true => AV.tuple (.sl 0 :: ps) | false => .sl 0) ∧ τ = [(0, .row false t n es)] := by
  intro w β ro cargs h1 h2 h3 h4 h5
  refine Calls.mono (h w β ro cargs h1 h2 h3 h4 h5) fun e w' hq => ?_
  obtain ⟨v, r, σ', β', ro', n', he, ⟨k, rfl, rfl⟩, hrel, hh, ht⟩ := hq
  have hid : hget [(k, AObj.row false t n es)] k = some (.row false t n es) := by simp [hget]
  have hid0 : hget [(0, AObj.row false t n es)] 0 = some (.row false t n es) := by simp [hget]
  have only : ∀ id o, hget [(0, AObj.row false t n es)] id = some o → id = 0 ∧ o = .row false t n es := by
    intro id o hg
    simp only [hget] at hg
    split at hg
    · rename_i e; simp at hg; exact ⟨e.symm, hg.symm⟩
    · cases hg
  have hO := hh.objs k _ hid
  have hsl : ∀ c, ARel w' ro' [(k, AObj.row false t n es)] β' n' (.sl k) c → ARel w' ro' [(0, AObj.row false t n es)] (fun _ => β' k) 1 (.sl 0) c := by
    intro c hc
    cases hc with
    | sl _ _ hl hp => exact .sl 0 c (by omega) fun z t' n'' es' hg => hp _ _ _ _ hid
  have live : (AObj.row false t n es).live = true := rfl
  refine ⟨v, _, _, fun _ => β' k, ro', 1, he, ⟨rfl, rfl⟩, ?_, ⟨fun id o hg => ?_, fun id id' o o' b h1 h2 _ _ _ _ => ?_, fun b hb => ?_, hh.lt⟩, ?_⟩
  · cases tup with
    | false => exact hsl v hrel
    | true =>
      simp only at hrel ⊢
      generalize hl : AV.sl k :: ps = l at hrel
      cases hrel with
      | tuple _ c hs hc =>
        subst hl
        refine .tuple _ c (by simpa using hs) fun j x hj => ?_
        cases j with
        | zero =>
          simp at hj
          subst hj
          exact hsl _ (hc 0 _ rfl)
        | succ j =>
          simp only [List.getElem?_cons_succ] at hj
          exact pure_rel (hc (j + 1) x (by simpa using hj)) (pureL_at hp hj)
  · obtain ⟨rfl, rfl⟩ := only id o hg
    cases hO with
    | row _ _ _ xs e1 e2 e3 => exact .row t n es xs e1 e2 e3
  · rw [(only id o h1).1, (only id' o' h2).1]
  · rintro ⟨id, o, hg, hl, hbk⟩
    exact hh.disj b hb ⟨k, _, hid, live, hbk⟩
  · refine ⟨ht.os, ht.tape, ht.output, ht.size, ht.frame, ht.roSub, ht.roKeep, ?_, fun id hi => absurd hi (Nat.not_lt_zero _), fun id o hg => by rw [(only id o hg).1]; exact Nat.one_pos, Nat.zero_le _⟩
    rintro b ⟨id, o, hg, hl, hbk⟩
    exact ht.ownSub b ⟨k, _, hid, live, hbk⟩

section
variable {P : Program} {G : Glob} {s : St} {Q : Exit → St → Prop}
/-- Where ways meet, with a value that they bring. -/
def JoinE {A : Type} (st : A → St) (R : A → Prop) (Q : Exit → St → Prop) : Exit → St → Prop
  | .normal, s => ∃ a, R a ∧ Le s (st a)
  | e, s => Q e s
theorem AWp.joinE {A : Type} {x y : Code} (st : A → St) (R : A → Prop) (hx : AWp P G x (JoinE st R Q) s) (k : ∀ a, R a → AWp P G y Q (st a)) : AWp P G (.seq x y) Q s := fun E a w hr => by
  refine wp_seq (wp_mono (hx E a w hr) fun e a' w' hq => ?_)
  obtain ⟨s', h1, h2⟩ := hq
  cases e with
  | normal =>
    obtain ⟨v, hv, hl⟩ := h1
    exact k v hv E a' w' (hl E G a' w' h2)
  | _ => exact ⟨s', h1, h2⟩
theorem AWp.joinE1 {A : Type} {x : Code} (st : A → St) (R : A → Prop) (hx : AWp P G x (JoinE st R Q) s) (k : ∀ a, R a → Q .normal (st a)) : AWp P G x Q s := fun E a w hr => by
  refine wp_mono (hx E a w hr) fun e a' w' hq => ?_
  obtain ⟨s', h1, h2⟩ := hq
  cases e with
  | normal =>
    obtain ⟨v, hv, hl⟩ := h1
    exact ⟨st v, k v hv, hl E G a' w' h2⟩
  | _ => exact ⟨s', h1, h2⟩
/-- A loop that is followed round by round. -/
def AR (P : Program) (G : Glob) (c : Code) (Q : Exit → St → Prop) (n : Nat) (s : St) : Prop := ∀ E a w, Rel E G s a w → Code.rounds P c (lift E G Q) n a w
theorem AWp.rounds {c : Code} (n : Nat) (h : AR P G c Q n s) : AWp P G (.loop c) Q s := fun E a w hr => wp_loop_rounds n (h E a w hr)
theorem AR.rd {c : Code} (n : Nat) (h : AWp P G c (fun e s' => match e with
      | .normal => AR P G c Q n s'
      | e => Q e s') s) : AR P G c Q (n + 1) s := fun E a w hr => by
  rw [rounds_succ]
  refine wp_mono (h E a w hr) fun e a' w' hq => ?_
  obtain ⟨s', h1, h2⟩ := hq
  cases e with
  | normal => exact h1 E a' w' h2
  | _ => exact ⟨s', h1, h2⟩
theorem leafRow {fn : Func} {k t n : Nat} {es R : List (List RV)} (hr : es = R) (h : aresult P fn s = some (.sl k) := by as_aux_lemma => kernel_rfl) (hg : hget s.heap k = some (.row false t n es) := by as_aux_lemma => kernel_rfl) :
    RetQ P fn (fun r τ => ∃ k, r = (match false with | true => AV.tuple (.sl k :: []) | false => .sl k) ∧ τ = [(k, .row false t n R)]) .ret s :=
  ⟨.inr rfl, _, _, h, hget_one hg, k, rfl, by rw [hr]⟩
end
/-- A nil slice that is returned, as an own row. -/
theorem AWp.nrow {P : Program} {G : Glob} {Q : Exit → St → Prop} {s : St} {c : Code} (k e n : Nat) (h : AWp P G c Q { s with slots := s.slots.set k (.sl s.next), heap := (s.next, .row false e n []) :: s.heap, next := s.next + 1 })
    (hk : s.slots[k]? = some (.rv (.v (.slice none 0 0))) := by as_aux_lemma => kernel_rfl) (hb : Nat.ble s.base s.next = true := by as_aux_lemma => kernel_rfl) : AWp P G c Q s :=
  AWp.le (Le.nilRow k e n hk (Nat.le_of_ble_eq_true hb) rfl) h
end Go.Av
