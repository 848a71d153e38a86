/- Waves: their numbers are small, and grow with the index. Conditions: none. -/
import Derived.Test.YtjgpnceaicijcaaWB1
namespace Go.Proofs.Ytjgpnceaicijcaa
open Go Go.Av Go.Hh Go.Proofs
theorem loopW_to {R A : Type} {b : A → Step R A} {a a' : A} (n : Nat) (h : b a = .nxt a') : loopW b (n + 1) a = loopW b n a' := by
  simp [loopW, h]
theorem loopW_at {R A : Type} {b : A → Step R A} {a a' : A} (n : Nat) (h : b a = .brk a') : loopW b (n + 1) a = .inr a' := by
  simp [loopW, h]
theorem of_last (n : Int) (hn : n < 4611686018427387904) : ∀ (j : Nat) (w z e : Int), z * 2 ^ j = 4611686018427387904 → 1 ≤ z → e = 2 * z - 1 → 0 ≤ w → w + j ≤ 1000 → ∃ q, loopW (ofM_B1 n) (j + 1) (w, z, e) = .inr q ∧ w ≤ q.1 ∧ q.1 ≤ w + j
  | 0, w, z, e, h, h0, he, hw, hj => by
    have hz : z = 4611686018427387904 := by simpa using h
    have e3 : decide (n ≥ e) = false := decide_eq_false (by omega)
    exact ⟨(w, z, e), loopW_at _ (by simp only [ofM_B1, e3, cond_false]), by simp, by simp⟩
  | j + 1, w, z, e, h, h0, he, hw, hj => by
    have h2 : (z * 2) * 2 ^ j = 4611686018427387904 := by rw [← h, Int.pow_succ, Int.mul_assoc, Int.mul_comm 2 (2 ^ j)]
    have hp : (0 : Int) < 2 ^ j := Int.pow_pos (by omega)
    have hb : (z * 2) * 1 ≤ (z * 2) * 2 ^ j := Int.mul_le_mul_of_nonneg_left (by omega) (by omega)
    have e0 : IntKind.i64.wrap (w + 1) = w + 1 := wrap64_of _ (by omega) (by omega)
    have e1 : IntKind.i64.wrap (z * 2) = z * 2 := wrap64_of _ (by omega) (by omega)
    have e2 : IntKind.i64.wrap (e + z * 2) = e + z * 2 := wrap64_of _ (by omega) (by omega)
    cases hd : decide (n ≥ e) with
    | true =>
      obtain ⟨q, q1, q2, q3⟩ := of_last n hn j (w + 1) (z * 2) (e + z * 2) h2 (by omega) (by omega) (by omega) (by omega)
      exact ⟨q, (loopW_to _ (by simp only [ofM_B1, e0, e1, e2, hd, cond_true])).trans q1, by omega, by omega⟩
    | false => exact ⟨(w, z, e), loopW_at _ (by simp only [ofM_B1, hd, cond_false]), by simp, by simp; omega⟩
theorem of_ordered (n m : Int) (hnm : n ≤ m) (hm : m < 4611686018427387904) : ∀ (j : Nat) (w z e : Int), z * 2 ^ j = 4611686018427387904 → 1 ≤ z → e = 2 * z - 1 → 0 ≤ w → w + j ≤ 1000 → ∃ p q, loopW (ofM_B1 n) (j + 1) (w, z, e) = .inr p ∧ loopW (ofM_B1 m) (j + 1) (w, z, e) = .inr q ∧ p.1 ≤ q.1
  | 0, w, z, e, h, h0, he, hw, hj => by
    have hz : z = 4611686018427387904 := by simpa using h
    have e3 : decide (n ≥ e) = false := decide_eq_false (by omega)
    have e4 : decide (m ≥ e) = false := decide_eq_false (by omega)
    exact ⟨(w, z, e), (w, z, e), loopW_at _ (by simp only [ofM_B1, e3, cond_false]), loopW_at _ (by simp only [ofM_B1, e4, cond_false]), Int.le_refl _⟩
  | j + 1, w, z, e, h, h0, he, hw, hj => by
    have h2 : (z * 2) * 2 ^ j = 4611686018427387904 := by rw [← h, Int.pow_succ, Int.mul_assoc, Int.mul_comm 2 (2 ^ j)]
    have hp : (0 : Int) < 2 ^ j := Int.pow_pos (by omega)
    have hb : (z * 2) * 1 ≤ (z * 2) * 2 ^ j := Int.mul_le_mul_of_nonneg_left (by omega) (by omega)
    have e0 : IntKind.i64.wrap (w + 1) = w + 1 := wrap64_of _ (by omega) (by omega)
    have e1 : IntKind.i64.wrap (z * 2) = z * 2 := wrap64_of _ (by omega) (by omega)
    have e2 : IntKind.i64.wrap (e + z * 2) = e + z * 2 := wrap64_of _ (by omega) (by omega)
    cases hd : decide (n ≥ e) with
    | true =>
      have hd2 : decide (m ≥ e) = true := decide_eq_true (by have := of_decide_eq_true hd; omega)
      obtain ⟨p, q, q1, q2, q3⟩ := of_ordered n m hnm hm j (w + 1) (z * 2) (e + z * 2) h2 (by omega) (by omega) (by omega) (by omega)
      exact ⟨p, q, (loopW_to _ (by simp only [ofM_B1, e0, e1, e2, hd, cond_true])).trans q1, (loopW_to _ (by simp only [ofM_B1, e0, e1, e2, hd2, cond_true])).trans q2, q3⟩
    | false =>
      obtain ⟨q, q1, q2, q3⟩ := of_last m hm (j + 1) w z e h h0 he hw hj
      exact ⟨(w, z, e), q, loopW_at _ (by simp only [ofM_B1, hd, cond_false]), q1, q2⟩
theorem of_bound (n : Int) (hn : n < 4611686018427387904) : 0 ≤ ofM n ∧ ofM n ≤ 62 := by
  obtain ⟨q, q1, q2, q3⟩ := of_last n hn 62 0 1 1 (by decide) (by omega) (by omega) (by omega) (by omega)
  have : ofM n = q.1 := by
    show (loopV (ofM_B1 n) 63 (0, 1, 1)).1 = _
    rw [← loopV_of q1]
  rw [this]
  exact ⟨q2, by simpa using q3⟩
theorem of_mono {n m : Int} (h : n ≤ m) (hm : m < 4611686018427387904) : ofM n ≤ ofM m := by
  obtain ⟨p, q, q1, q2, q3⟩ := of_ordered n m h hm 62 0 1 1 (by decide) (by omega) (by omega) (by omega) (by omega)
  have h1 : ofM n = p.1 := by
    show (loopV (ofM_B1 n) 63 (0, 1, 1)).1 = _
    rw [← loopV_of q1]
  have h2 : ofM m = q.1 := by
    show (loopV (ofM_B1 m) 63 (0, 1, 1)).1 = _
    rw [← loopV_of q2]
  rw [h1, h2]
  exact q3
end Go.Proofs.Ytjgpnceaicijcaa
