/- The AV calculus: an own map that nobody writes again becomes immutable. Conditions: none. -/
import Derived.Test.YtjgpnceaicijcaaPNe
import Derived.Test.YtjgpnceaicijcaaPMx
namespace Go.Av
open Go

mutual
/-- The own map 'id' is from now on the immutable value x. -/
def subA (id : Nat) (x : RV) : AV → AV
  | .ref k => match Nat.beq k id with
    | true => .rv x
    | false => .ref k
  | .agg cs => .agg (subL id x cs)
  | .tuple cs => .tuple (subL id x cs)
  | .fn f p q => .fn f (subL id x p) (subL id x q)
  | .rv y => .rv y
  | .sl k => .sl k
  | .ptr k off => .ptr k off
  | .eptr k i off => .eptr k i off
  | .top => .top
def subL (id : Nat) (x : RV) : List AV → List AV
  | [] => []
  | y :: r => subA id x y :: subL id x r
end
theorem subL_length (id : Nat) (x : RV) : ∀ (l : List AV), (subL id x l).length = l.length
  | [] => rfl
  | y :: r => by simp [subL, subL_length id x r]
theorem subL_at (id : Nat) (x : RV) : ∀ {l : List AV} {j : Nat} {y : AV}, (subL id x l)[j]? = some y → ∃ z, l[j]? = some z ∧ y = subA id x z
  | [], j, y, h => by simp [subL] at h
  | z :: r, j, y, h => by
    cases j with
    | zero => simp [subL] at h; exact ⟨z, by simp, h.symm⟩
    | succ j => simp [subL] at h; simpa using subL_at id x h
def subO (id : Nat) (x : RV) : AObj → AObj
  | .box t cs => .box t (subL id x cs)
  | .row z t n es => .row z t n es
  | .oth Φ => .oth Φ
def subH (id : Nat) (x : RV) : Heap → Heap
  | [] => []
  | (k, o) :: r => (k, subO id x o) :: subH id x r
theorem hget_subH (id : Nat) (x : RV) : ∀ (h : Heap) (k : Nat), hget (subH id x h) k = (hget h k).map (subO id x)
  | [], k => by simp [subH, hget]
  | (j, o) :: r, k => by
    by_cases hj : j = k
    · simp [subH, hget, hj]
    · simp [subH, hget, hj, hget_subH id x r k]
def frzM (s : St) (id : Nat) : St :=
  match hget s.heap id with
  | some (.oth Φ) => match Φ.view with
    | some x => ⟨subL id x s.slots, subH id x (hdel s.heap id), s.next, s.base⟩
    | none => s
  | _ => s
theorem Le.frzM (s : St) (id : Nat) : Le s (frzM s id) := by
  unfold Go.Av.frzM
  split
  · rename_i Φ hid
    split
    · rename_i rv hv
      intro E G a w ⟨β, ro, h⟩
      have hO := h.heap.objs id _ hid
      cases hO with
      | oth _ bb ob g1 g2 g3 =>
        have hrv : RRel w (fun b => ro b ∨ blk (β id) = some b) rv (β id) := Φ.viewOk rv hv w ro _ _ ob bb g3 g1 g2 (fun _ h => .inl h) (.inr g1)
        have hsub : ∀ k o, hget (hdel s.heap id) k = some o → hget s.heap k = some o ∧ k ≠ id := by
          intro k o hk
          rw [hget_hdel] at hk
          split at hk
          · cases hk
          · rename_i hne
            exact ⟨hk, fun e => hne e.symm⟩
        have back : ∀ k o, hget (subH id rv (hdel s.heap id)) k = some o → ∃ p, hget s.heap k = some p ∧ k ≠ id ∧ p.live = o.live ∧ o = subO id rv p := by
          intro k o hg
          rw [hget_subH] at hg
          cases hk : hget (hdel s.heap id) k with
          | none => simp [hk] at hg
          | some p =>
            obtain ⟨h1, h2⟩ := hsub k p hk
            refine ⟨p, h1, h2, ?_, ?_⟩
            · simp [hk] at hg
              subst hg
              cases p <;> rfl
            · simp [hk] at hg
              exact hg.symm
        have view : ∀ x c, ARel w ro s.heap β s.next x c → ARel w (fun b => ro b ∨ blk (β id) = some b) (subH id rv (hdel s.heap id)) β s.next (subA id rv x) c := by
          intro x c hx
          induction hx with
          | rv x c hx => exact .rv x c (hx.keep (fun _ _ => rfl) fun _ h => .inl h)
          | agg cs c h1 _ ih =>
            refine .agg _ c (by rw [subL_length]; exact h1) fun j x hj => ?_
            obtain ⟨y, hy, rfl⟩ := subL_at _ _ hj
            exact ih j y hy
          | tuple cs c h1 _ ih =>
            refine .tuple _ c (by rw [subL_length]; exact h1) fun j x hj => ?_
            obtain ⟨y, hy, rfl⟩ := subL_at _ _ hj
            exact ih j y hy
          | ptr k off c hl hp =>
            refine .ptr k off c hl fun t' cs' hg => ?_
            obtain ⟨p, h1, _, _, h4⟩ := back k _ hg
            cases p with
            | box t2 cs2 => exact hp t2 cs2 h1
            | row => cases h4
            | oth => cases h4
          | eptr k i off c hl hp =>
            refine .eptr k i off c hl fun z' t' n' es' hg => ?_
            obtain ⟨p, h1, _, _, h4⟩ := back k _ hg
            cases p with
            | box => cases h4
            | oth => cases h4
            | row z2 t2 n2 es2 =>
              simp only [subO, AObj.row.injEq] at h4
              obtain ⟨rfl, rfl, rfl, rfl⟩ := h4
              exact hp _ _ _ _ h1
          | sl k c hl hp =>
            refine .sl k c hl fun z' t' n' es' hg => ?_
            obtain ⟨p, h1, _, _, h4⟩ := back k _ hg
            cases p with
            | box => cases h4
            | oth => cases h4
            | row z2 t2 n2 es2 => exact hp _ _ _ _ h1
          | fn f p q c d h1 h2 _ _ ih1 ih2 =>
            refine .fn f _ _ c d (by rw [subL_length]; exact h1) (by rw [subL_length]; exact h2) (fun j x hj => ?_) (fun j x hj => ?_)
            · obtain ⟨y, hy, rfl⟩ := subL_at _ _ hj
              exact ih1 j y hy
            · obtain ⟨y, hy, rfl⟩ := subL_at _ _ hj
              exact ih2 j y hy
          | ref k c hl hp =>
            simp only [subA]
            split
            · rename_i hk
              have := Nat.eq_of_beq_eq_true hk
              subst this
              rw [hp _ hid]
              exact .rv _ _ hrv
            · refine .ref k c hl fun Φ' hg => ?_
              obtain ⟨p, h1, _, _, h4⟩ := back k _ hg
              cases p with
              | box => cases h4
              | row => cases h4
              | oth Φ2 => exact hp Φ2 h1
          | top c => exact .top c
        refine ⟨β, fun b => ro b ∨ blk (β id) = some b, h.defers, by simpa [subL_length] using h.size, fun i x hx => ?_, ⟨fun k o hg => ?_, fun k k' o o' b hg hg' hl hl' hb hb' => ?_, fun b hb => ?_, fun b hb => ?_⟩,
          h.glob.keep (fun _ _ => rfl) fun _ h => .inl h, ?_, h.base⟩
        · obtain ⟨y, hy, rfl⟩ := subL_at _ _ hx
          exact view _ _ (h.slot i y hy)
        · obtain ⟨p, h1, h2, h3, rfl⟩ := back k o hg
          have ho := h.heap.objs k p h1
          cases ho with
          | box t' cs' b arr e1 e2 e3 e4 =>
            refine .box t' _ b arr e1 e2 (by rw [subL_length]; exact e3) fun j x hj => ?_
            obtain ⟨y, hy, rfl⟩ := subL_at _ _ hj
            exact view _ _ (e4 j y hy)
          | row t' n' es' xs' e1 e2 e3 => exact .row t' n' es' xs' e1 e2 fun j x hj => (e3 j x hj).keep (fun _ _ => rfl) fun _ h => .inl h
          | fro t' n' es' e1 => exact .fro t' n' es' (e1.keep (fun _ _ => rfl) fun _ h => .inl h)
          | oth Φ b o e1 e2 e3 => exact .oth Φ b o e1 e2 (Φ.mono _ _ _ _ (fun x c h => h.keep (fun _ _ => rfl) fun _ h => .inl h) e3)
        · obtain ⟨p, h1, _, h3, _⟩ := back k o hg
          obtain ⟨p', h1', _, h3', _⟩ := back k' o' hg'
          exact h.heap.inj k k' p p' b h1 h1' (h3.trans hl) (h3'.trans hl') hb hb'
        · rintro ⟨k, o, hg, hl, hbk⟩
          obtain ⟨p, h1, h2, h3, _⟩ := back k o hg
          rcases hb with hb | hb
          · exact h.heap.disj b hb ⟨k, p, h1, h3.trans hl, hbk⟩
          · exact h2 (h.heap.inj k id p _ b h1 hid (h3.trans hl) rfl hbk hb)
        · rcases hb with hb | hb
          · exact h.heap.lt b hb
          · rw [g1] at hb
            simp only [Option.some.injEq] at hb
            subst hb
            exact (Array.getElem?_eq_some_iff.1 g2).1
        · have t' := h.trans
          refine ⟨t'.os, t'.tape, t'.output, t'.size, t'.frame, fun b hb => ?_, fun b hb => .inl (t'.roKeep b hb), ?_, fun k hk o hg => ?_, fun k o hg => ?_, t'.le⟩
          · rcases hb with hb | hb
            · exact t'.roSub b hb
            · rcases t'.ownSub b ⟨id, _, hid, rfl, hb⟩ with hc | hc
              · exact .inr (.inl hc)
              · exact .inr (.inr hc)
          · rintro b ⟨k, o, hg, hl, hbk⟩
            obtain ⟨p, h1, _, h3, _⟩ := back k o hg
            exact t'.ownSub b ⟨k, p, h1, h3.trans hl, hbk⟩
          · obtain ⟨p, h1, _, _, _⟩ := back k o hg
            exact t'.old k hk p h1
          · obtain ⟨p, h1, _, _, _⟩ := back k o hg
            exact t'.new k p h1
    · exact Le.refl s
  · exact Le.refl s

/-- A loop that goes on while its body says so: at most n rounds. -/
def loopW {R A : Type} (b : A → Step R A) : Nat → A → R ⊕ A
  | 0, a => .inr a
  | n + 1, a => match b a with
    | .ret r => .inl r
    | .brk a => .inr a
    | .nxt a => loopW b n a
/-- n rounds are enough. -/
def endsW {R A : Type} (b : A → Step R A) : Nat → A → Prop
  | 0, _ => False
  | n + 1, a => match b a with
    | .ret _ => True
    | .brk _ => True
    | .nxt a => endsW b n a
theorem loopW_next {R A : Type} {b : A → Step R A} {n : Nat} {a a' : A} {L : R ⊕ A} (h : L = loopW b n a ∧ endsW b n a) (hb : b a = .nxt a') : ∃ m, n = m + 1 ∧ L = loopW b m a' ∧ endsW b m a' := by
  obtain ⟨h1, h2⟩ := h
  cases n with
  | zero => cases h2
  | succ n => exact ⟨n, rfl, by simpa [loopW, hb] using h1, by simpa [endsW, hb] using h2⟩
theorem loopW_brk {R A : Type} {b : A → Step R A} {n : Nat} {a a' : A} {L : R ⊕ A} (h : L = loopW b n a ∧ endsW b n a) (hb : b a = .brk a') : L = .inr a' := by
  obtain ⟨h1, h2⟩ := h
  cases n with
  | zero => cases h2
  | succ n => simpa [loopW, hb] using h1
end Go.Av
