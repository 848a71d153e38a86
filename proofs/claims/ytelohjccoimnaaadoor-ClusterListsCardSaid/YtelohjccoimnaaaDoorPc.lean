/- Chapter 21: the small functions of the program and of the reference compute the same. Conditions: none. -/
import Derived.Test.YtelohjccoimnaaaDoorPb
namespace Go.Proofs.YtelohjccoimnaaaDoor
open Go Go.Av Go.Hh Go.Proofs

theorem valid_scan (x : ByteArray) : ∀ (m k : Nat), x.size - k ≤ m → scanR x (validM_B1 x) m k = scanN (rvalidM_B1 x) k (x.size - k)
  | 0, k, h => by rw [show x.size - k = 0 from by omega]; rfl
  | m + 1, k, h => by
    by_cases hk : k < x.size
    · simp only [scanR, hk, if_true]
      rw [show x.size - k = (x.size - (k + 1)) + 1 from by omega]
      simp only [scanN]
      have hl : x.data.toList[k]? = some (x[k]'hk) := by
        have : k < x.data.toList.length := by simpa using hk
        rw [List.getElem?_eq_getElem this]; rfl
      have hb : validM_B1 x k = rvalidM_B1 x k ∧ (validM_B1 x k = none → (Utf8.decode x k).2 = 1) := by
        rcases Nat.lt_or_ge (x[k]'hk).toNat 128 with ha | ha
        · have hd := decode_ascii x k hk ha
          constructor
          · unfold validM_B1 rvalidM_B1 letterM
            simp only [hl, hd]
          · intro _; rw [hd]
        · have hd := (decode_high x k hk ha).1
          have e1 : validM_B1 x k = some false := by
            unfold validM_B1 letterM
            generalize (Utf8.decode x k).1 = c at hd
            have h1 : decide ((c : Int) ≤ 122) = false := decide_eq_false (by omega)
            have h2 : ((c : Int) != 95) = true := by simp; omega
            have h3 : ((c : Int) != 45) = true := by simp; omega
            have h4 : decide ((c : Int) > 57) = true := decide_eq_true (by omega)
            simp only [h1, h2, h3, h4, Bool.and_false, Bool.not_false, Bool.and_true, Bool.or_true, Bool.true_and, cond_true]
          have e2 : rvalidM_B1 x k = some false := by
            unfold rvalidM_B1
            rw [hl]
            simp only
            generalize (x[k]'hk).toNat = c at ha
            have h1 : decide ((c : Int) ≤ 122) = false := decide_eq_false (by omega)
            have h2 : ((c : Int) != 95) = true := by simp; omega
            have h3 : ((c : Int) != 45) = true := by simp; omega
            have h4 : decide ((c : Int) > 57) = true := decide_eq_true (by omega)
            simp only [h1, h2, h3, h4, Bool.and_false, Bool.not_false, Bool.and_true, Bool.or_true, Bool.true_and, cond_true]
          exact ⟨e1.trans e2.symm, fun h => by rw [e1] at h; cases h⟩
      rw [hb.1]
      cases hr : rvalidM_B1 x k with
      | some r => rfl
      | none =>
        simp only
        rw [hb.2 (hb.1.trans hr)]
        exact valid_scan x m (k + 1) (by omega)
    · simp [scanR, hk, show x.size - k = 0 from by omega, scanN]
theorem valid_eq (x : ByteArray) : validM x = rvalidM x := by
  unfold validM rvalidM
  have : validM_L1 x = rvalidM_L1 x := by
    unfold validM_L1 rvalidM_L1
    rw [valid_scan x x.size 0 (by omega)]
    rfl
  rw [this]

theorem wide_eq (c : Cluster) : wideM c = tooManyM c := by
  unfold wideM tooManyM
  have h1 : wideM_L1 c = tooManyM_L1 c := rfl
  rw [h1]
  cases h : tooManyM_L1 c with
  | none => simp
  | some r =>
    obtain ⟨k, _, _, hk, _⟩ := scanN_get h
    unfold tooManyM_B1 at hk
    simp only [cond_eq_ite] at hk
    split at hk
    · split at hk
      · simp only [Option.some.injEq] at hk
        subst hk
        simp
      · cases hk
    · cases hk

theorem beqS_true {a b : ByteArray} : beqS a b = true ↔ a = b := by rw [beqS_eq]; simp
theorem beqS_false {a b : ByteArray} : beqS a b = false ↔ a ≠ b := by rw [beqS_eq]; simp

theorem rmember_iff (l : List ByteArray) (x : ByteArray) : rmemberM l x = true ↔ x ∈ l := by
  unfold rmemberM
  cases h : rmemberM_L1 l x with
  | none =>
    refine ⟨fun h => (by cases h), fun hx => ?_⟩
    obtain ⟨k, hk, rfl⟩ := List.mem_iff_getElem.1 hx
    have := scan_at h hk
    unfold rmemberM_B1 at this
    rw [List.getElem?_eq_getElem hk] at this
    simp only [beqS_refl, cond_true] at this
    cases this
  | some r =>
    obtain ⟨k, _, _, hk, _⟩ := scanN_get h
    unfold rmemberM_B1 at hk
    simp only [cond_eq_ite] at hk
    split at hk
    · rename_i e he
      split at hk
      · rename_i hb
        simp only [Option.some.injEq] at hk
        subst hk
        rw [beqS_true] at hb
        subst hb
        exact ⟨fun _ => List.mem_of_getElem? he, fun _ => rfl⟩
      · cases hk
    · cases hk
theorem sIndex_cases (l : List ByteArray) (x : ByteArray) : (sIndexM l x = -1 ∧ x ∉ l) ∨ ∃ j : Nat, sIndexM l x = (j : Int) ∧ l[j]? = some x ∧ ∀ i, i < j → l[i]? ≠ some x := by
  unfold sIndexM
  cases h : sIndexM_L1 l x with
  | none =>
    refine .inl ⟨rfl, fun hx => ?_⟩
    obtain ⟨k, hk, rfl⟩ := List.mem_iff_getElem.1 hx
    have := scan_at h hk
    unfold sIndexM_B1 at this
    rw [List.getElem?_eq_getElem hk] at this
    simp only [beqS_refl, cond_true] at this
    cases this
  | some r =>
    obtain ⟨k, _, _, hk, hno⟩ := scanN_get h
    unfold sIndexM_B1 at hk
    simp only [cond_eq_ite] at hk
    split at hk
    · rename_i e he
      split at hk
      · rename_i hb
        simp only [Option.some.injEq] at hk
        subst hk
        rw [beqS_true] at hb
        subst hb
        refine .inr ⟨k, rfl, he, fun i hi hx => ?_⟩
        have := hno i (Nat.zero_le _) hi
        unfold sIndexM_B1 at this
        rw [hx] at this
        simp only [beqS_refl, cond_true] at this
        cases this
      · cases hk
    · cases hk
theorem sCont_iff (l : List ByteArray) (x : ByteArray) : sContM l x = true ↔ x ∈ l := by
  unfold sContM
  rcases sIndex_cases l x with ⟨h1, h2⟩ | ⟨j, h1, h2, _⟩
  · rw [h1]
    exact ⟨fun h => by simp at h, fun h => absurd h h2⟩
  · rw [h1]
    exact ⟨fun _ => List.mem_of_getElem? h2, fun _ => decide_eq_true (by omega)⟩
theorem mem_take_iff {α : Type} {l : List α} {k : Nat} {x : α} : x ∈ l.take k ↔ ∃ i, i < k ∧ l[i]? = some x := by
  rw [List.mem_iff_getElem?]
  constructor
  · rintro ⟨i, hi⟩
    rw [List.getElem?_take] at hi
    split at hi
    · rename_i h; exact ⟨i, h, hi⟩
    · cases hi
  · rintro ⟨i, h, hi⟩
    exact ⟨i, by rw [List.getElem?_take, if_pos h]; exact hi⟩
theorem sIndex_lt {l : List ByteArray} {k : Nat} {e : ByteArray} (he : l[k]? = some e) : decide (nIndexM l e < (k : Int)) = rmemberM (l.take k) e := by
  unfold nIndexM
  rw [Bool.eq_iff_iff, decide_eq_true_eq, rmember_iff, mem_take_iff]
  rcases sIndex_cases l e with ⟨_, h2⟩ | ⟨j, h1, h2, h3⟩
  · exact absurd (List.mem_of_getElem? he) h2
  · rw [h1]
    constructor
    · intro h; exact ⟨j, by omega, h2⟩
    · rintro ⟨i, hi, hx⟩
      rcases Nat.lt_or_ge i j with h | h
      · exact absurd hx (h3 i h)
      · omega

theorem sameNames_eq (l m : List ByteArray) : sameNamesM l m = decide (l = m) := by
  unfold sameNamesM
  simp only [cond_eq_ite]
  split
  · rename_i h
    refine (decide_eq_false fun e => ?_).symm
    subst e
    simp at h
  · rename_i h
    have hl : l.length = m.length := by simp at h; omega
    cases h1 : sameNamesM_L1 l m with
    | none =>
      refine (decide_eq_true ?_).symm
      apply List.ext_getElem hl
      intro i h2 h3
      have := scan_at h1 h2
      unfold sameNamesM_B1 at this
      rw [List.getElem?_eq_getElem h2, List.getElem?_eq_getElem h3] at this
      simp only [cond_eq_ite] at this
      split at this
      · cases this
      · rename_i h4
        simp only [Bool.not_eq_true', beqS_eq, decide_eq_false_iff_not, Decidable.not_not] at h4
        exact h4
    | some r =>
      obtain ⟨k, _, _, hk, _⟩ := scanN_get h1
      unfold sameNamesM_B1 at hk
      simp only [cond_eq_ite] at hk
      split at hk
      · rename_i a ha
        split at hk
        · rename_i b hb
          split at hk
          · rename_i hne
            simp only [Option.some.injEq] at hk
            subst hk
            refine (decide_eq_false fun e => ?_).symm
            subst e
            rw [ha] at hb
            cases hb
            simp [beqS_refl] at hne
          · cases hk
        · cases hk
      · cases hk
theorem sEqual_eq (l m : List ByteArray) : sEqualM l m = decide (l = m) := (show sEqualM l m = sameNamesM l m from rfl).trans (sameNames_eq l m)

theorem members_eq (a : Attr) : membersM a.enum = (bif (decide (((a.enum.length : Nat) : Int) < 1) || decide (((a.enum.length : Nat) : Int) > 64)) then 3 else (rdefM_L1 a).getD 0) := by
  unfold membersM
  have : membersM_L1 a.enum = rdefM_L1 a := scan_eq fun j hj => by
    unfold membersM_B1 rdefM_B1
    have he : a.enum[j]? = some a.enum[j] := List.getElem?_eq_getElem hj
    rw [he]
    simp only
    rw [valid_eq, sIndex_lt he]
  rw [this]
theorem def_eq (a : Attr) : defM a = rdefM a := by
  unfold defM rdefM
  rw [valid_eq, members_eq]
  simp only [cond_eq_ite]
  have hr : ((!(inRangeM a.min) || !(inRangeM a.max)) || decide (a.min > a.max)) = ((decide (a.min < -1099511627776) || decide (a.max > 1099511627776)) || decide (a.min > a.max)) := by
    unfold inRangeM
    rw [Bool.eq_iff_iff]
    simp only [Bool.or_eq_true, Bool.not_eq_true', Bool.and_eq_false_iff, decide_eq_false_iff_not, decide_eq_true_eq]
    omega
  rw [hr]
  by_cases h3 : a.kind = 3
  · simp [h3]
  · simp [h3]
theorem ite_iff {α : Type} {p q : Prop} [Decidable p] [Decidable q] {a b : α} (h : p ↔ q) : (if p then a else b) = if q then a else b := by
  by_cases hp : p
  · rw [if_pos hp, if_pos (h.1 hp)]
  · rw [if_neg hp, if_neg fun hq => hp (h.2 hq)]
theorem ite_swap {α : Type} {p q : Prop} [Decidable p] [Decidable q] {a b : α} (h : p ↔ ¬ q) : (if p then a else b) = if q then b else a := by
  by_cases hq : q
  · rw [if_pos hq, if_neg fun hp => h.1 hp hq]
  · rw [if_neg hq, if_pos (h.2 hq)]
theorem vcheck_eq (v : Val) : vCheckM v = rvCheckM v := by
  unfold vCheckM rvCheckM inRangeM
  simp only [cond_eq_ite]
  by_cases h0 : v.kind = 0
  · simp [h0]
    apply ite_swap
    omega
  by_cases h4 : v.kind = 4
  · simp [h4]
    apply ite_swap
    omega
  by_cases h1 : v.kind = 1
  · simp [h1]
    apply ite_iff
    omega
  by_cases h2 : v.kind = 2
  · simp [h2]
  by_cases h3 : v.kind = 3
  · simp [h3]
  · simp [h0, h1, h2, h3, h4]
theorem fits_eq (a : Attr) (v : Val) : fitsM a v = rfitsM a v := by
  unfold fitsM rfitsM
  rw [def_eq, vcheck_eq]
end Go.Proofs.YtelohjccoimnaaaDoor
