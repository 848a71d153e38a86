/- Vendor: the program checks a codec, finds an attribute and knows its devices as the reference does. Conditions: none. -/
import Derived.Test.YtmjimhkbehoomaaVQh
namespace Go.Proofs.Ytmjimhkbehoomaa
open Go Go.Av Go.Hh Go.Proofs
theorem first_take {α : Type} {l : List α} {p : α → Bool} {k : Nat} {e : α} (he : l[k]? = some e) (hp : p e = true) : decide (firstI l p < (k : Int)) = decide (firstI (l.take k) p ≥ 0) := by
  refine decide_eq_decide.2 ?_
  rcases firstI_cases l p with ⟨_, h2⟩ | ⟨j, d, h1, h2, h3, h4⟩
  · rw [h2 k e he] at hp; cases hp
  · rcases firstI_cases (l.take k) p with ⟨g1, g2⟩ | ⟨i, d', g1, g2, g3, g4⟩
    · rw [h1, g1]
      constructor
      · intro hj
        have := g2 j d (by rw [List.getElem?_take, if_pos (by omega)]; exact h2)
        rw [this] at h3; cases h3
      · intro hj; omega
    · rw [h1, g1]
      rw [List.getElem?_take] at g2
      split at g2
      · rename_i hik
        rcases Nat.lt_or_ge i j with h | h
        · rw [h4 i d' h g2] at g3; cases g3
        · constructor <;> intro _ <;> omega
      · cases g2
theorem mapped_eq (f : FieldV) (a : Attr) (n : Int) : mappedM f.map n = bif (((f.map.length : Nat) : Int) != n) then false else (shapeM_L1 f a).getD true := by
  unfold mappedM
  have : mappedM_L1 f.map n = shapeM_L1 f a := scan_eq fun j hj => by
    unfold mappedM_B1 shapeM_B1
    have he : f.map[j]? = some f.map[j] := List.getElem?_eq_getElem hj
    generalize f.map[j] = e at he
    rw [he]
    dsimp only
    rw [iIndex_first, first_take (p := fun x => e == x) he (by simp), rindex_first]
    have : firstI (f.map.take j) (fun x => e == x) = firstI (f.map.take j) (fun x => x == e) := firstI_congr fun _ x _ => by rw [Bool.eq_iff_iff]; simp; exact eq_comm
    rw [this]
    cases decide (e < 0) <;> cases decide (e > 65535) <;> cases decide (firstI (f.map.take j) (fun x => x == e) ≥ 0) <;> rfl
  rw [this]
theorem form_eq {f : FieldV} {a : Attr} (hd : defM a = 0) (hk : a.kind ≠ 4) (hs : 0 ≤ f.scale) : formM f a = shapeM f a := by
  obtain ⟨h1, h2, h3, _⟩ := def_kind hd
  unfold formM shapeM
  by_cases k2 : a.kind = 2
  · rw [k2]
    simp only [beq_self_eq_true, cond_true]
    congr 1
    rw [Bool.eq_iff_iff]
    simp only [bne_iff_ne, ne_eq, decide_eq_true_eq]
    omega
  · have e2 : (a.kind == 2) = false := by simpa using k2
    rw [e2]
    simp only [cond_false]
    by_cases k3 : a.kind = 3
    · rw [k3]
      simp only [beq_self_eq_true, cond_true]
      rw [mapped_eq f a]
      by_cases s0 : f.scale = 0
      · by_cases o0 : f.offset = 0
        · simp [s0, o0]
        · have o1 : (f.offset == 0) = false := by simpa using o0
          simp [s0, bne, o1]
      · have s1 : (f.scale == 0) = false := by simpa using s0
        simp [bne, s1]
    · have e3 : (a.kind == 3) = false := by simpa using k3
      rw [e3, h3 k3]
      simp only [cond_false, List.length_nil]
      by_cases s0 : f.scale = 0
      · by_cases o0 : f.offset = 0
        · by_cases m0 : f.map = []
          · simp [s0, o0, m0, shapeM_L1, scanN]
          · have m1 : f.map.length ≠ 0 := fun h => m0 (List.eq_nil_of_length_eq_zero h)
            have m2 : (((f.map.length : Nat) : Int) == 0) = false := by simp; exact m0
            have m3 : (((f.map.length : Nat) : Int) == ((0 : Nat) : Int)) = false := m2
            simp only [s0, o0, bne, m2, m3]
            rfl
        · have o1 : (f.offset == 0) = false := by simpa using o0
          simp [s0, bne, o1]
      · have s1 : (f.scale == 0) = false := by simpa using s0
        simp [bne, s1]
theorem dup_eq (c : Codec) (h : Home) (i : Nat) (f : FieldV) : fieldM_L1 c h i f = bif decide (codeM (c.fields.take i) f.code ≥ 0) then some 9 else none := by
  rw [code_first]
  rcases firstI_cases (c.fields.take i) (fun e => e.code == f.code) with ⟨g1, g2⟩ | ⟨j, d, g1, g2, g3, g4⟩
  · rw [g1]
    refine scan_none fun j hj => ?_
    unfold fieldM_B1
    have he : (c.fields.take i)[j]? = some (c.fields.take i)[j] := List.getElem?_eq_getElem hj
    rw [he]
    dsimp only
    rw [g2 j _ he]
    rfl
  · rw [g1, decide_eq_true (by omega)]
    refine scan_first (j := j) (getElem_lt g2) ?_ fun k hk => ?_
    · unfold fieldM_B1
      rw [g2]
      dsimp only
      rw [g3]
      rfl
    · unfold fieldM_B1
      have hkl : k < (c.fields.take i).length := by have := getElem_lt g2; omega
      have he : (c.fields.take i)[k]? = some (c.fields.take i)[k] := List.getElem?_eq_getElem hkl
      rw [he]
      dsimp only
      rw [g4 k _ hk he]
      rfl
theorem venCheck_eq (c : Codec) (h : Home) : venCheckM c h = rvenCheckM c h := by
  unfold venCheckM rvenCheckM
  rw [dev_eq]
  cases hd : (rdevCheckM h != 0) with
  | true => rfl
  | false =>
    have h0 : devCheckM h = 0 := by rw [dev_eq]; exact bz hd
    simp only [cond_false]
    have : venCheckM_L1 c h = rvenCheckM_L1 c h := scan_eq fun j hj => by
      unfold venCheckM_B1 rvenCheckM_B1 fieldM
      have he : c.fields[j]? = some c.fields[j] := List.getElem?_eq_getElem hj
      generalize c.fields[j] = f at he
      rw [he]
      dsimp only
      rw [dup_eq]
      cases hr : ((decide (f.code < 0) || (decide (f.code > 255) || (decide (f.scale < 0) || (decide (f.scale > 1000) || decide (f.offset < -100000))))) || decide (f.offset > 100000)) with
      | true => rfl
      | false =>
        simp only [cond_false]
        cases decide (codeM (c.fields.take j) f.code ≥ 0) with
        | true => rfl
        | false =>
          simp only [cond_false, Option.getD_none]
          rw [← vattr_eq h f]
          cases ha : (vattrM h f).2 with
          | false => rfl
          | true =>
            simp only [Bool.not_true, cond_false]
            cases hk : ((vattrM h f).1.kind == 4) with
            | true => rfl
            | false =>
              simp only [cond_false]
              have hs : 0 ≤ f.scale := by
                simp only [Bool.or_eq_false_iff, decide_eq_false_iff_not, Int.not_lt] at hr
                omega
              rw [form_eq (vattr_def h0 ha) (by simpa using hk) hs]
              cases shapeM f (vattrM h f).1 <;> rfl
    rw [this]
end Go.Proofs.Ytmjimhkbehoomaa
