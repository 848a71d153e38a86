/- The AV calculus, part R: loops over a string's runes and bytes, cuts, and clones, for printed proofs. Conditions: none. -/
import Derived.Test.YtjgpnceaicijcaaPMq
import Derived.Laws.RangeString
import Derived.Laws.RangeAny
namespace Go.Av
open Go

theorem width_pos (s : ByteArray) (pos : Nat) (h : pos < s.size) : 1 ≤ (Utf8.decode s pos).2 := by
  by_cases ha : (s[pos]'h).toNat < 128
  · rw [Go.decode_ascii s pos h ha]
    exact Nat.le_refl _
  · exact (Go.decode_high s pos h (by omega)).2

/-- The first result of a loop over the runes of a string from a place on; none if it runs through. -/
def scanR {R : Type} (s : ByteArray) (b : Nat → Option R) : Nat → Nat → Option R
  | 0, _ => none
  | m + 1, p => if p < s.size then (match b p with
    | some r => some r
    | none => scanR s b m (p + (Utf8.decode s p).2)) else none

theorem scanR_fuel {R : Type} (s : ByteArray) (b : Nat → Option R) : ∀ (m n p : Nat), s.size - p ≤ m → s.size - p ≤ n → scanR s b m p = scanR s b n p
  | 0, n, p, h1, h2 => by
    cases n with
    | zero => rfl
    | succ n => simp [scanR, show ¬ p < s.size from by omega]
  | m + 1, 0, p, h1, h2 => by simp [scanR, show ¬ p < s.size from by omega]
  | m + 1, n + 1, p, h1, h2 => by
    simp only [scanR]
    by_cases hp : p < s.size
    · have := width_pos s p hp
      rw [scanR_fuel s b m n (p + (Utf8.decode s p).2) (by omega) (by omega)]
    · simp [hp]

theorem scanR_some {R : Type} {s : ByteArray} {b : Nat → Option R} {k : Nat} {r : R} {L : Option R} (h : L = scanR s b (s.size - k) k) (hk : k < s.size) (hb : b k = some r) : L = some r := by
  rw [h, show s.size - k = (s.size - k - 1) + 1 from by omega]
  simp [scanR, hk, hb]
theorem scanR_none {R : Type} {s : ByteArray} {b : Nat → Option R} {k : Nat} {L : Option R} (h : L = scanR s b (s.size - k) k) (hk : k < s.size) (hb : b k = none) : L = scanR s b (s.size - (k + (Utf8.decode s k).2)) (k + (Utf8.decode s k).2) := by
  have hw := width_pos s k hk
  rw [h, show s.size - k = (s.size - k - 1) + 1 from by omega]
  simp only [scanR, hk, if_true, hb]
  exact scanR_fuel s b _ _ _ (by omega) (by omega)
theorem scanR_end {R : Type} {s : ByteArray} {b : Nat → Option R} {k : Nat} {L : Option R} (h : L = scanR s b (s.size - k) k) (hk : s.size ≤ k) : L = none := by
  rw [h, show s.size - k = 0 from by omega]
  rfl

theorem byteAt {s : ByteArray} {k : Nat} (h : k < s.size) : ∃ e, s.data.toList[k]? = some e :=
  ⟨_, List.getElem?_eq_getElem (by simpa using h)⟩

section
variable {P : Program} {G : Glob} {o : Oper} {s : St}
theorem R_indexStrM (b : ByteArray) (j : Nat) {t : TypeId} {x i : Operand} (ho : o.op = .index t x i) (ht : P.underlying t = some .string) (hi : aval G s i = .rv (.v (.int .i64 (j : Int)))) (hx : aval G s x = .rv (.v (.string b))) {u : UInt8} (hu : b.data.toList[j]? = some u) :
    VStep P G o s (.rv (.v (.int .u8 ((u.toNat : Nat) : Int)))) := R_index_str t x i ho ht hi hx hu

theorem R_nextM (b : ByteArray) (pos id : Nat) {x : Operand} (ho : o.op = .next x true) (hx : aval G s x = .ref id) (hid : hget s.heap id = some (.oth (strIt b pos))) (hp : pos < b.size) :
    OpStep P G o s ({ s with heap := hset s.heap id (.oth (strIt b (pos + (Utf8.decode b pos).2))) }.put o.dst (.tuple [.rv (.v (.bool true)), .rv (.v (.int .i64 (pos : Int))), .rv (.v (.int .i32 (((Utf8.decode b pos).1 : Nat) : Int)))])) :=
  R_next x ho hx hid hp rfl

/-- A cut from the start. -/
theorem R_sliceM {α : Type} (C : α → List RV) (l : List α) (n h : Nat) {t : TypeId} {x y : Operand} (ho : o.op = .slice t x none (some y) none) (ht : elemSize P t = some n) (hx : aval G s x = .rv (.sl n (l.map C))) (hy : aval G s y = .rv (.v (.int .i64 (h : Int)))) (h2 : h ≤ l.length) :
    VStep P G o s (.rv (.sl n ((l.take h).map C))) :=
  R_slice t x none (some y) ho ht hx (l := 0) (h := h) (.inl ⟨rfl, rfl⟩) (.inr ⟨y, _, rfl, hy⟩) (Nat.zero_le _) (by simpa using h2) (by rw [List.drop_zero, List.map_take])

/-- A clone: x[:0:0], and x appended. -/
theorem R_appendM {α : Type} (C : α → List RV) (l m : List α) (id e n bytes : Nat) {x y : Operand} {t : TypeId} (ho : o.op = .call { callee := .builtin .append, args := #[x, y], argTypes := #[t, t] }) (ht : apType P t = some (e, n, bytes))
    (hx : aval G s x = .sl id) (hid : hget s.heap id = some (.row false e n (l.map C))) (hb : s.base ≤ id) (hlt : id < s.next)
    (hy : aval G s y = .rv (.sl n (m.map C))) (hsz : l.length + m.length ≤ maxLen ∧ (l.length + m.length) * bytes ≤ 140737488355328) :
    OpStep P G o s (St.put ⟨killL id s.slots, (id, .row false e n ((l ++ m).map C)) :: killH id s.heap, s.next, s.base⟩ o.dst (.sl id)) := by
  rw [List.map_append]
  exact R_append x y t ho ht hx hid hb hlt (by rw [hy]; simp [aelems]) (by simpa using hsz)
end
section
variable {P : Program} {G : Glob} {s : St}
theorem run_equalIn_slice_nil' (w : World) (d : Nat) (t e : TypeId) (a : Option Addr) (n c n' c' : Nat) (h : P.underlying t = some (.slice e)) :
    (Op.equalIn (d + 1) t (.slice a n c) (.slice none n' c')).run P w = .ok a.isNone w := by
  cases a <;> simp [Op.equalIn, run_underlying h]
/-- x == nil: some boolean; if it is true, x is empty. -/
theorem AOps.nilTest {ops : Array Oper} {Q : Exit → St → Prop} {α : Type} (C : α → List RV) (l : List α) (n : Nat) {o : Oper} {r : List Oper} {x : Operand} {t t' e : TypeId} (hg : o.guard = none)
    (ho : o.op = .binOp .eql t x (.const (.slice none 0 0)) t') (ht : P.underlying t = some (.slice e)) (hx : aval G s x = .rv (.sl n (l.map C))) (k : ∀ b : Bool, (b = true → l = []) → AOps P G ops Q r (s.put o.dst (vb b))) : AOps P G ops Q (o :: r) s := by
  intro E a w hr
  obtain ⟨β, ro, h⟩ := hr
  have h1 := h.eval x
  rw [hx] at h1
  generalize hc : a.eval x = c at h1
  cases h1 with
  | rv _ _ h1 =>
    cases h1 with
    | sl _ _ b cap f g1 g2 g3 g4 g5 =>
      have hl : b.isNone = true → l = [] := fun hb => by
        cases b with
        | some b => simp at hb
        | none =>
          cases l with
          | nil => rfl
          | cons q l =>
            obtain ⟨z, hz, _⟩ := g4 (by simp)
            cases hz
      refine wpList_plain hg fun _ hK => ?_
      unfold Oper.wp
      have hrun : (execOp a.eval o).run P w = .ok (.value (.bool b.isNone)) w := by
        have hn : a.eval (.const (.slice none 0 0)) = .slice none 0 0 := rfl
        have hq : ∀ u v : Operand, (eqGuard .eql t u v (.slice b (l.map C).length cap) (.slice none 0 0)).run P w = .ok () w := fun u v => rfl
        simp only [execOp, ho, hc, hn, Sem.run_bind, hq, Result.andThen_ok, binOp]
        simp [Op.equal, Op.maxDepth, run_equalIn_slice_nil' (P := P) w 9999 t e b _ cap 0 0 ht]
      rw [hrun]
      exact hK _ _ (k _ hl E _ _ ⟨β, ro, h.put o.dst _ _ (.ofV rfl)⟩)
end

theorem apSz {a b : Nat} {bytes : Nat} (h : a + b ≤ 1000000 ∧ bytes ≤ 1000) : a + b ≤ maxLen ∧ (a + b) * bytes ≤ 140737488355328 := by
  refine ⟨by simp only [maxLen]; omega, ?_⟩
  have := Nat.mul_le_mul h.1 h.2
  omega
/-- A nil slice is an empty row. -/
def nilV (m : Option Nat) : AV → AV
  | .rv (.v (.slice none 0 0)) => match m with
    | some n => .rv (.sl n [])
    | none => .rv (.v (.slice none 0 0))
  | x => x
def nilsL : List (Option Nat) → List AV → List AV
  | m :: ms, c :: cs => nilV m c :: nilsL ms cs
  | _, cs => cs
def nilsA (m : List (Option Nat)) : AV → AV
  | .agg cs => .agg (nilsL m cs)
  | x => nilV (m.headD none) x
def St.nils (s : St) (k : Nat) (m : List (Option Nat)) : St :=
  { s with slots := match s.slots[k]? with | some x => s.slots.set k (nilsA m x) | none => s.slots }

theorem nilV_rel {w : World} {ro : Nat → Prop} {σ : Heap} {β : Nat → Value} {N : Nat} {m : Option Nat} {x : AV} {c : Value} (h : ARel w ro σ β N x c) : ARel w ro σ β N (nilV m x) c := by
  unfold nilV
  split
  · cases m with
    | none => exact h
    | some n =>
      refine .rv _ _ ?_
      cases h with
      | rv _ _ h =>
        cases h
        exact .sl n [] none 0 (fun _ => undef) (Nat.le_refl _) (Nat.zero_le _) (by simp) (by simp) (by simp)
  · exact h
theorem nilsL_at {m : List (Option Nat)} {cs : List AV} {j : Nat} {x : AV} (h : (nilsL m cs)[j]? = some x) : ∃ y p, cs[j]? = some y ∧ x = nilV p y := by
  induction m generalizing cs j with
  | nil => exact ⟨x, none, by simpa [nilsL] using h, by unfold nilV; split <;> rfl⟩
  | cons a m ih =>
    cases cs with
    | nil => simp [nilsL] at h
    | cons c cs =>
      cases j with
      | zero => simp [nilsL] at h; exact ⟨c, a, rfl, h.symm⟩
      | succ j => simp only [nilsL, List.getElem?_cons_succ] at h ⊢; exact ih h
theorem nilsL_length (m : List (Option Nat)) (cs : List AV) : (nilsL m cs).length = cs.length := by
  induction m generalizing cs with
  | nil => rfl
  | cons a m ih => cases cs <;> simp [nilsL, ih]
theorem nilsA_rel {w : World} {ro : Nat → Prop} {σ : Heap} {β : Nat → Value} {N : Nat} {m : List (Option Nat)} {x : AV} {c : Value} (h : ARel w ro σ β N x c) : ARel w ro σ β N (nilsA m x) c := by
  unfold nilsA
  split
  · cases h with
    | agg cs c h1 h2 =>
      refine .agg _ _ (by rw [h1, nilsL_length]) fun j y hj => ?_
      obtain ⟨z, p, hz, rfl⟩ := nilsL_at hj
      exact nilV_rel (h2 j z hz)
  · exact nilV_rel h
theorem Le.nils {s s' : St} (k : Nat) (m : List (Option Nat)) (h : s.nils k m = s') : Le s s' := by
  subst h
  intro E G a w ⟨β, ro, h⟩
  unfold St.nils
  cases hk : s.slots[k]? with
  | none => exact ⟨β, ro, h⟩
  | some x =>
    refine ⟨β, ro, h.defers, by simp [h.size], fun i y hy => ?_, h.heap, h.glob, h.trans, h.base⟩
    rw [List.getElem?_set] at hy
    split at hy
    · rename_i e
      subst e
      split at hy
      · simp only [Option.some.injEq] at hy
        subst hy
        exact nilsA_rel (h.slot k x hk)
      · cases hy
    · exact h.slot i y hy

/-- The same in a box. -/
def St.nilsB (s : St) (id : Nat) (m : List (Option Nat)) : St :=
  match hget s.heap id with
  | some (.box t cs) => { s with heap := hset s.heap id (.box t (nilsL m cs)) }
  | _ => s
theorem Le.nilsB {s s' : St} (id : Nat) (m : List (Option Nat)) (h : s.nilsB id m = s') : Le s s' := by
  subst h
  intro E G a w ⟨β, ro, h⟩
  unfold St.nilsB
  split
  · rename_i t cs hid
    have hO := h.heap.objs id _ hid
    cases hO with
    | box _ _ b arr h1 h2 h3 h4 =>
      exact ⟨β, ro, h.write id _ _ hid rfl rfl (.inl ⟨_, _, _, rfl, rfl⟩) rfl rfl rfl (Nat.le_refl _) (fun _ _ _ => rfl) (.box t _ b arr h1 h2 (by rw [h3, nilsL_length]) fun j x hj => by
        obtain ⟨z, p, hz, rfl⟩ := nilsL_at hj
        exact nilV_rel (hset_box_keep hid (h4 j z hz) (fun _ _ => rfl)))⟩
  · exact ⟨β, ro, h⟩

theorem or_fl {a b : Bool} (h : (a || b) = false) : a = false := by cases a <;> simp_all
theorem or_fr {a b : Bool} (h : (a || b) = false) : b = false := by cases a <;> simp_all
theorem and_tl {a b : Bool} (h : (a && b) = true) : a = true := by cases a <;> simp_all
theorem and_tr {a b : Bool} (h : (a && b) = true) : b = true := by cases a <;> simp_all
end Go.Av
