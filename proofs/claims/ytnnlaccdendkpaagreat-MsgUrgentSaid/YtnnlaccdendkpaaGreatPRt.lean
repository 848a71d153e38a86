/- Chapter 24: the first device with a number. Conditions: none. -/
import Derived.Test.YtnnlaccdendkpaaGreatPRc
namespace Go.Proofs.YtnnlaccdendkpaaGreat
open Go Go.Av Go.Hh Go.Proofs
def firstB {α : Type} (l : List α) (p : α → Bool) (k : Nat) : Option Int :=
 match l[k]? with
 | some e => bif p e then some (k : Int) else none
 | none => none
def firstI {α : Type} (l : List α) (p : α → Bool) : Int := (scanN (firstB l p) 0 l.length).getD (-1)
theorem firstB_some {α : Type} {l : List α} {p : α → Bool} {k : Nat} {e : α} (he : l[k]? = some e) : firstB l p k = bif p e then some (k : Int) else none := by
 unfold firstB
 rw [he]
theorem firstI_cases {α : Type} (l : List α) (p : α → Bool) : (firstI l p = -1 ∧ ∀ (j : Nat) (e : α), l[j]? = some e → p e = false) ∨
    ∃ (j : Nat) (e : α), firstI l p = (j : Int) ∧ l[j]? = some e ∧ p e = true ∧ ∀ (i : Nat) (d : α), i < j → l[i]? = some d → p d = false := by
  cases hs : scanN (firstB l p) 0 l.length with
  | none =>
    refine .inl ⟨by unfold firstI; rw [hs]; rfl, fun j e he => ?_⟩
    have := scan_at hs (getElem_lt he)
    rw [firstB_some he] at this
    cases hp : p e with
    | false => rfl
    | true => rw [hp] at this; cases this
  | some r =>
    obtain ⟨j, _, h2, h3, h4⟩ := scanN_get hs
    have hj : j < l.length := by omega
    have he : l[j]? = some l[j] := List.getElem?_eq_getElem hj
    rw [firstB_some he] at h3
    cases hp : p l[j] with
    | false => rw [hp] at h3; cases h3
    | true =>
      rw [hp] at h3
      simp only [cond_true, Option.some.injEq] at h3
      refine .inr ⟨j, l[j], by unfold firstI; rw [hs]; exact h3.symm, he, hp, fun i d hi hd => ?_⟩
      have := h4 i (Nat.zero_le _) hi
      rw [firstB_some hd] at this
      cases hq : p d with
      | false => rfl
      | true => rw [hq] at this; cases this
theorem first_of {α : Type} {l : List α} {p : α → Bool} {b : Nat → Option Int} (h : ∀ (k : Nat) (e : α), l[k]? = some e → b k = bif p e then some (k : Int) else none) : (scanN b 0 l.length).getD (-1) = firstI l p := by
 unfold firstI
 rw [scan_eq (b := b) (c := firstB l p) fun k hk => ?_]
 have he : l[k]? = some l[k] := List.getElem?_eq_getElem hk
 rw [h k _ he, firstB_some he]
theorem at_first (h : Home) (n : Int) : atM h n = firstI h.devices (fun e => e.id == n) := first_of fun k e he => by unfold atM_B1; rw [he]
theorem dev_find (h : Home) (n : Int) (h0 : devCheckM h = 0) : (atM h n = -1 ∧ (devFindM h n).2 = false ∧ ∀ (j : Nat) (d : Dev), h.devices[j]? = some d → d.id ≠ n) ∨
    ∃ (j : Nat) (d : Dev), atM h n = (j : Int) ∧ h.devices[j]? = some d ∧ devFindM h n = (d, true) ∧ d.id = n := by
  have e1 : devFindM h n = (devFindM_L1 h n).getD ((⟨0, 0, 0, false, 0, ⟨#[]⟩, []⟩ : Dev), false) := by
    unfold devFindM
    rw [h0]
    rfl
  rw [at_first, e1]
  rcases firstI_cases h.devices (fun e => e.id == n) with ⟨g1, g2⟩ | ⟨j, d, g1, g2, g3, g4⟩
  · refine .inl ⟨g1, ?_, fun j d hd => by simpa using g2 j d hd⟩
    have : devFindM_L1 h n = none := scan_none fun j hj => by
      unfold devFindM_B1
      have he : h.devices[j]? = some h.devices[j] := List.getElem?_eq_getElem hj
      rw [he]
      dsimp only
      rw [g2 j _ he]
      rfl
    rw [this]
    rfl
  · refine .inr ⟨j, d, g1, g2, ?_, by simpa using g3⟩
    have : devFindM_L1 h n = some (d, true) := scan_first (j := j) (getElem_lt g2) (by unfold devFindM_B1; rw [g2]; dsimp only; rw [g3]; rfl) fun i hi => by
      unfold devFindM_B1
      have hil : i < h.devices.length := by have := getElem_lt g2; omega
      have he : h.devices[i]? = some h.devices[i] := List.getElem?_eq_getElem hil
      rw [he]
      dsimp only
      rw [g4 i _ hi he]
      rfl
    rw [this]
    rfl
theorem attr_none {c : Cluster} {x : ByteArray} (h : (attrM c x).2 = false) : attrM c x = ((⟨⟨#[]⟩, 0, 0, 0, [], false, false⟩ : Attr), false) := by
 unfold attrM at h ⊢
 cases hs : attrM_L1 c x with
 | none => rfl
 | some r =>
  obtain ⟨j, _, _, hj, _⟩ := scanN_get hs
  unfold attrM_B1 at hj
  simp only [cond_eq_ite] at hj
  repeat' split at hj
  all_goals first
   | (cases hj; done)
   | (cases hj; rw [hs] at h; cases h)
end Go.Proofs.YtnnlaccdendkpaaGreat
