/- The AV calculus, part Q: slice literals, computed; appends, cuts and others for printed proofs. Conditions: none. -/
import Derived.Test.YtjgpnceaicijcaaPMp
namespace Go.Av
open Go

section
variable {P : Program} {G : Glob} {o : Oper} {s : St}

/-- The element type of a slice type, its size, its zero cells. -/
def bsType (P : Program) (t : TypeId) : Option (TypeId × Nat × List Value) :=
  match P.underlying t with
  | some (.slice e) => match P.info? e, zeroCells P e with
    | some i, some zs => if zs.all Value.oneCell' ∧ zs.length = i.size ∧ 0 < i.size then some (e, i.size, zs) else none
    | _, _ => none
  | _ => none

/-- A slice literal's elements, computed. -/
def bsRow (P : Program) (G : Glob) (s : St) (t : TypeId) (len : Nat) (parts : List (Nat × Operand)) : Option (TypeId × Nat × List (List RV)) :=
  match bsType P t with
  | some (e, n, zs) =>
    if len = 0 then (if parts.isEmpty then some (e, n, []) else none)
    else if len * n ≤ 16777216 ∧ (parts.map fun p => (p.1, aval G s p.2)).all (fun p => (vcells p.2).all (cellOkIn s.heap)) then
      match afill (fun i => some (i * n, n)) ((List.replicate len (zs.map fun z => AV.rv (.v z))).flatten) (parts.map fun p => (p.1, aval G s p.2)) with
      | some ds => match rvs ds with
        | some rs => some (e, n, chunk n len rs)
        | none => none
      | none => none
    else none
  | none => none

theorem R_buildSliceC {t : TypeId} {len : Nat} {parts : Array (Nat × Operand)} (ho : o.op = .buildSlice t len parts) {e n : Nat} {es : List (List RV)} (h : bsRow P G s t len parts.toList = some (e, n, es)) : NRow P G o s e n es := by
  unfold bsRow at h
  split at h
  · rename_i e' n' zs ht
    unfold bsType at ht
    split at ht
    · rename_i e2 hu
      split at ht
      · rename_i i zs2 hi hz
        split at ht
        · rename_i hc
          simp only [Option.some.injEq, Prod.mk.injEq] at ht
          obtain ⟨rfl, rfl, rfl⟩ := ht
          split at h
          · rename_i hlen
            subst hlen
            split at h
            · rename_i hp
              simp only [Option.some.injEq, Prod.mk.injEq] at h
              obtain ⟨rfl, rfl, rfl⟩ := h
              refine ⟨by simp, fun E a w β ro hr => ⟨.slice (some ⟨w.heap.size, 0, none⟩) 0 0, [], w.alloc (.cells #[] e2), ?_, ?_, World.grownBy_alloc w _ none, fun b hb => by simp [blk] at hb, by simp⟩⟩
              · have hp' : parts = #[] := by
                  apply Array.ext'
                  simpa using hp
                subst hp'
                simp [execOp, ho, Instr.buildSlice, run_underlying hu, sizeOf, typeInfo, hi, Instr.fill, newRow, Sem.run_bind, Array.range_zero']
              · exact World.ownsRow_lit w #[] 0 (Nat.zero_le _) (Nat.zero_le _) (by simp)
            · cases h
          · rename_i hlen
            split at h
            · rename_i hc2
              split at h
              · rename_i ds hf
                split at h
                · rename_i rs hrs
                  simp only [Option.some.injEq, Prod.mk.injEq] at h
                  obtain ⟨rfl, rfl, rfl⟩ := h
                  have hpos : 0 < len * i.size := Nat.mul_pos (Nat.pos_of_ne_zero hlen) hc.2.2
                  exact R_buildSlice t len parts ho hu (by simp [hi]) hz hc.1 hc.2.1 ⟨hpos, hc2.1⟩ rfl hc2.2 hf hrs
                · cases h
              · cases h
            · cases h
        · cases ht
      · cases ht
    · cases ht
  · cases h

/-- What is known of a slice that is held: its length is a length. -/
theorem AOps.lenLe {ops : Array Oper} {Q : Exit → St → Prop} {l : List Oper} {x : Operand} {n : Nat} {es : List (List RV)} (hx : aval G s x = .rv (.sl n es)) (k : es.length ≤ 9223372036854775807 → AOps P G ops Q l s) : AOps P G ops Q l s := by
  intro E a w hr
  refine k ?_ E a w hr
  obtain ⟨β, ro, h⟩ := hr
  have h1 := h.eval x
  rw [hx] at h1
  generalize a.eval x = c at h1
  cases h1 with
  | rv _ _ h1 =>
    cases h1 with
    | sl _ _ b cap f g1 g2 =>
      have : maxLen = 9223372036854775807 := by decide
      omega
theorem AOps.lenLeM {ops : Array Oper} {Q : Exit → St → Prop} {α : Type} {C : α → List RV} {l : List α} {r : List Oper} {x : Operand} {n : Nat} (hx : aval G s x = .rv (.sl n (l.map C))) (k : l.length ≤ 9223372036854775807 → AOps P G ops Q r s) : AOps P G ops Q r s :=
  AOps.lenLe hx fun h => k (by rw [List.length_map] at h; exact h)
theorem R_indexAddrM {α : Type} (C : α → List RV) (l : List α) (n j : Nat) {t : TypeId} {x i : Operand} (ho : o.op = .indexAddr t x i) (ht : elemSize P t = some n) (hi : aval G s i = .rv (.v (.int .i64 (j : Int)))) (hx : aval G s x = .rv (.sl n (l.map C))) {e : α} (he : l[j]? = some e) : VStep P G o s (.rv (.ptr (C e))) :=
  R_indexAddr t x i ho ht hi (by rw [hx]; exact aelem_map he)
theorem R_lenM {α : Type} (C : α → List RV) (l : List α) (n : Nat) {x : Operand} {t : TypeId} (ho : o.op = .call { callee := .builtin .len, args := #[x], argTypes := #[t] }) (ht : isSlice P t = true) (hx : aval G s x = .rv (.sl n (l.map C))) : VStep P G o s (.rv (.v (.int .i64 (l.length : Int)))) :=
  R_len x t ho ht (by rw [hx]; exact alen_map)
end

theorem wrap_nat {k : Nat} (h : k + 1 ≤ 9223372036854775807) : IntKind.i64.wrap (((k : Nat) : Int) + 1) = ((k + 1 : Nat) : Int) := by
  rw [wrap64_of _ (by omega) (by omega)]
  rfl
theorem beq_t {a b : Int} (h : (a == b) = true) : a = b := by simpa using h
theorem beq_f {a b : Int} (h : (a == b) = false) : a ≠ b := by simpa using h
theorem bne_t {a b : Int} (h : (a != b) = true) : a ≠ b := by simpa using h
theorem bne_f {a b : Int} (h : (a != b) = false) : a = b := by simpa using h

/-- The first result of a loop over the indexes k, k + 1, .. (m of them); none if it runs through. -/
def scanN {R : Type} (b : Nat → Option R) : Nat → Nat → Option R
  | _, 0 => none
  | k, m + 1 => match b k with
    | some r => some r
    | none => scanN b (k + 1) m

theorem scanN_some {R : Type} {b : Nat → Option R} {k n : Nat} {r : R} {L : Option R} (h : L = scanN b k (n - k)) (hk : k < n) (hb : b k = some r) : L = some r := by
  rw [h, show n - k = (n - k - 1) + 1 from by omega]
  simp [scanN, hb]
theorem scanN_none {R : Type} {b : Nat → Option R} {k n : Nat} {L : Option R} (h : L = scanN b k (n - k)) (hk : k < n) (hb : b k = none) : L = scanN b (k + 1) (n - (k + 1)) := by
  rw [h, show n - k = (n - (k + 1)) + 1 from by omega]
  simp [scanN, hb]
theorem scanN_end {R : Type} {b : Nat → Option R} {k n : Nat} {L : Option R} (h : L = scanN b k (n - k)) (hk : n ≤ k) : L = none := by
  rw [h, show n - k = 0 from by omega]
  rfl

end Go.Av
