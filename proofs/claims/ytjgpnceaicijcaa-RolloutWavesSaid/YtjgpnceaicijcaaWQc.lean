/- Rollout: the program's small functions and the reference's compute the same. Conditions: none. -/
import Derived.Test.YtjgpnceaicijcaaWQb
import Derived.Test.YtjgpnceaicijcaaWB4
import Derived.Test.YtjgpnceaicijcaaWB5
namespace Go.Proofs.Ytjgpnceaicijcaa
open Go Go.Av Go.Hh Go.Proofs
theorem fw_eq (f : Firmware) : fwCheckM f = rfwCheckM f := by
  have h1 : (!(namedM f.vendor f.version)) = ((decide (f.vendor < 0) || (decide (f.vendor > 255) || decide (f.version < 1))) || decide (f.version > 65535)) := by
    unfold namedM
    rw [Bool.eq_iff_iff]
    simp only [Bool.not_eq_true', Bool.and_eq_false_iff, Bool.or_eq_true, decide_eq_true_eq, decide_eq_false_iff_not]
    omega
  have h2 : fwCheckM_L1 f = rfwCheckM_L1 f := scan_eq fun j _ => by
    unfold fwCheckM_B1 rfwCheckM_B1
    cases f.sums[j]? with
    | none => rfl
    | some e =>
      simp only
      cases decide (e < 0) <;> cases decide (e > 4294967295) <;> rfl
  unfold fwCheckM rfwCheckM
  rw [h1, h2]
theorem loopW_nxt {R A : Type} {b : A → Step R A} {a a' : A} (n : Nat) (h : b a = .nxt a') : loopW b (n + 1) a = loopW b n a' := by
  simp [loopW, h]
theorem loopW_end {R A : Type} {b : A → Step R A} {a a' : A} (n : Nat) (h : b a = .brk a') : loopW b (n + 1) a = .inr a' := by
  simp [loopW, h]
theorem waves_eq (n : Int) (hn : n < 4611686018427387904) : ∀ (j : Nat) (w f : Int), (f + 1) * 2 ^ j = 4611686018427387904 → 0 ≤ f → ∃ p q, loopW (waveM_B1 n) (j + 1) (w, f) = .inr p ∧ loopW (ofM_B1 n) (j + 1) (w, f + 1, 2 * f + 1) = .inr q ∧ p.1 = q.1
  | 0, w, f, h, h0 => by
    have hf : f + 1 = 4611686018427387904 := by simpa using h
    have e1 : IntKind.i64.wrap (2 * f) = 2 * f := wrap64_of _ (by omega) (by omega)
    have e2 : IntKind.i64.wrap (2 * f + 1) = 2 * f + 1 := wrap64_of _ (by omega) (by omega)
    have e3 : decide (n ≥ 2 * f + 1) = false := decide_eq_false (by omega)
    exact ⟨(w, f), (w, f + 1, 2 * f + 1), loopW_end _ (by simp only [waveM_B1, e1, e2, e3, cond_false]), loopW_end _ (by simp only [ofM_B1, e3, cond_false]), rfl⟩
  | j + 1, w, f, h, h0 => by
    have h2 : (2 * f + 1 + 1) * 2 ^ j = 4611686018427387904 := by rw [← h, Int.pow_succ]; rw [show 2 * f + 1 + 1 = (f + 1) * 2 by omega, Int.mul_assoc, Int.mul_comm 2 (2 ^ j)]
    have hp : (0 : Int) < 2 ^ j := Int.pow_pos (by omega)
    have hb : (2 * f + 1 + 1) * 1 ≤ (2 * f + 1 + 1) * 2 ^ j := Int.mul_le_mul_of_nonneg_left (by omega) (by omega)
    have e1 : IntKind.i64.wrap (2 * f) = 2 * f := wrap64_of _ (by omega) (by omega)
    have e2 : IntKind.i64.wrap (2 * f + 1) = 2 * f + 1 := wrap64_of _ (by omega) (by omega)
    have e3 : IntKind.i64.wrap ((f + 1) * 2) = 2 * f + 1 + 1 := by rw [wrap64_of _ (by omega) (by omega)]; omega
    have e4 : IntKind.i64.wrap (2 * f + 1 + (2 * f + 1 + 1)) = 2 * (2 * f + 1) + 1 := by rw [wrap64_of _ (by omega) (by omega)]; omega
    cases hd : decide (n ≥ 2 * f + 1) with
    | true =>
      obtain ⟨p, q, q1, q2, q3⟩ := waves_eq n hn j (IntKind.i64.wrap (w + 1)) (2 * f + 1) h2 (by omega)
      exact ⟨p, q, (loopW_nxt _ (by simp only [waveM_B1, e1, e2, hd, cond_true])).trans q1, (loopW_nxt _ (by simp only [ofM_B1, e3, e4, hd, cond_true])).trans q2, q3⟩
    | false => exact ⟨(w, f), (w, f + 1, 2 * f + 1), loopW_end _ (by simp only [waveM_B1, e1, e2, hd, cond_false]), loopW_end _ (by simp only [ofM_B1, hd, cond_false]), rfl⟩
theorem wave_of (n : Int) (hn : n < 4611686018427387904) : waveM n = ofM n := by
  obtain ⟨p, q, q1, q2, q3⟩ := waves_eq n hn 62 0 0 (by decide) (by omega)
  show (loopV (waveM_B1 n) 63 (0, 0)).1 = (loopV (ofM_B1 n) 63 (0, 1, 1)).1
  rw [← loopV_of q1, ← loopV_of (show loopW (ofM_B1 n) 63 (0, 1, 1) = .inr q from q2), q3]
theorem stopped_eq (l : List Update) : stoppedM l = rstoppedM l := by
  show decide ((scanN (ixStopM_B1 l) 0 l.length).getD (-1) ≥ 0) = (scanN (rstoppedM_B1 l) 0 l.length).getD false
  cases h : scanN (ixStopM_B1 l) 0 l.length with
  | none =>
    rw [scan_none fun j hj => ?_]
    · rfl
    · have := scan_at h hj
      unfold ixStopM_B1 stopped1M at this
      unfold rstoppedM_B1
      cases hl : l[j]? with
      | none => rfl
      | some e =>
        rw [hl] at this
        simp only [cond_eq_ite] at this ⊢
        split at this
        · cases this
        · rename_i h1
          simp [h1]
  | some r =>
    obtain ⟨j, _, hj, h1, hno⟩ := scanN_get h
    unfold ixStopM_B1 stopped1M at h1
    cases hl : l[j]? with
    | none => rw [hl] at h1; cases h1
    | some e =>
      rw [hl] at h1
      simp only [cond_eq_ite] at h1
      split at h1
      · rename_i hs
        cases h1
        rw [scan_first (j := j) (r := true) (by omega) (by unfold rstoppedM_B1; rw [hl]; simp [hs]) fun i hi => ?_]
        · simp
        · have := hno i (by omega) hi
          unfold ixStopM_B1 stopped1M at this
          unfold rstoppedM_B1
          cases hl : l[i]? with
          | none => rfl
          | some e =>
            rw [hl] at this
            simp only [cond_eq_ite] at this ⊢
            split at this
            · cases this
            · rename_i h1
              simp [h1]
      · cases h1
theorem ixFind_eq (l : List Update) (n : Int) : ixFindM l n = rfindM l n := rfl
/-- Where the update of a device is. -/
theorem rfind_cases (l : List Update) (n : Int) : (rfindM l n = -1 ∧ ∀ (j : Nat) (e : Update), l[j]? = some e → e.dev ≠ n) ∨ ∃ (j : Nat) (e : Update), rfindM l n = (j : Int) ∧ l[j]? = some e ∧ e.dev = n ∧ ∀ (i : Nat) (d : Update), i < j → l[i]? = some d → d.dev ≠ n := by
  unfold rfindM rfindM_L1
  cases h : scanN (rfindM_B1 l n) 0 l.length with
  | none =>
    refine .inl ⟨rfl, fun j e he hn => ?_⟩
    have := scan_at h (getElem_lt he)
    unfold rfindM_B1 at this
    rw [he] at this
    simp [hn] at this
  | some r =>
    obtain ⟨j, _, hj, h1, hno⟩ := scanN_get h
    unfold rfindM_B1 at h1
    cases hl : l[j]? with
    | none => rw [hl] at h1; cases h1
    | some e =>
      rw [hl] at h1
      simp only [cond_eq_ite] at h1
      split at h1
      · rename_i hs
        cases h1
        refine .inr ⟨j, e, rfl, hl, by simpa using hs, fun i d hi hd hn => ?_⟩
        have := hno i (by omega) hi
        unfold rfindM_B1 at this
        rw [hd] at this
        simp [hn] at this
      · cases h1
/-- The update of a device that has a status. -/
theorem find_eq (l : List Update) (n s : Int) : (rfindM l n = -1 ∧ findM l n s = -1) ∨ ∃ (j : Nat) (e : Update), rfindM l n = (j : Int) ∧ l[j]? = some e ∧ findM l n s = bif (e.status != s) then -1 else (j : Int) := by
  unfold findM
  rw [ixFind_eq]
  rcases rfind_cases l n with ⟨h1, _⟩ | ⟨j, e, h1, h2, _⟩
  · refine .inl ⟨h1, ?_⟩
    rw [h1]
    rfl
  · refine .inr ⟨j, e, h1, h2, ?_⟩
    have hd : decide ((j : Int) ≥ 0) = true := decide_eq_true (by omega)
    rw [h1]
    simp only [hd, cond_true, Int.toNat_natCast, h2]
theorem iterN_invK {A : Type} {b : Nat → A → A} {n : Nat} (I : Nat → A → Prop) (h : ∀ k a, k < n → I k a → I (k + 1) (b k a)) : ∀ (m k : Nat) (a : A), k + m = n → I k a → I n (iterN b k m a)
  | 0, k, a, hk, ha => by
    have : k = n := by omega
    subst this
    exact ha
  | m + 1, k, a, hk, ha => iterN_invK I h m (k + 1) (b k a) (by omega) (h k a (by omega) ha)
theorem bCont_iff (l : List Bool) (x : Bool) : bContM l x = true ↔ x ∈ l := by
  show decide ((scanN (bIndexM_B1 l x) 0 l.length).getD (-1) ≥ 0) = true ↔ _
  cases h : scanN (bIndexM_B1 l x) 0 l.length with
  | none =>
    refine ⟨fun h => by simp at h, fun hx => ?_⟩
    obtain ⟨j, hj, he⟩ := List.mem_iff_getElem.1 hx
    have := scan_at h hj
    unfold bIndexM_B1 at this
    rw [List.getElem?_eq_getElem hj, he] at this
    simp at this
  | some r =>
    obtain ⟨j, _, hj, h1, _⟩ := scanN_get h
    unfold bIndexM_B1 at h1
    cases hl : l[j]? with
    | none => rw [hl] at h1; cases h1
    | some e =>
      rw [hl] at h1
      simp only [cond_eq_ite] at h1
      split at h1
      · rename_i hs
        cases h1
        refine ⟨fun _ => ?_, fun _ => decide_eq_true (by simp)⟩
        have : x = e := by simpa using hs
        subst this
        exact List.mem_of_getElem? hl
      · cases h1
/-- The flags that are kept: the first n, the others false. -/
theorem flags_at (v : List Bool) (n j : Nat) : (v.take (List.replicate n false).length ++ (List.replicate n false).drop v.length)[j]? = if j < n then some (v.getD j false) else none := by
  rw [List.length_replicate, List.drop_replicate]
  by_cases hj : j < n
  · rw [if_pos hj]
    by_cases hv : j < v.length
    · rw [List.getElem?_append_left (by rw [List.length_take]; omega), List.getElem?_take, if_pos hj, List.getElem?_eq_getElem hv]
      simp [hv]
    · rw [List.getElem?_append_right (by rw [List.length_take]; omega), List.length_take, Nat.min_eq_right (by omega), List.getElem?_replicate, if_pos (by omega)]
      simp [List.getElem?_eq_none (Nat.le_of_not_lt hv)]
  · rw [if_neg hj, List.getElem?_eq_none (by rw [List.length_append, List.length_take, List.length_replicate]; omega)]
end Go.Proofs.Ytjgpnceaicijcaa
