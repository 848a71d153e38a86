/- Messages: values, items and fields that are written and read. Conditions: none. -/
import Derived.Test.YtnnlaccdendkpaaURf
namespace Go.Proofs.Ytnnlaccdendkpaa
open Go Go.Av Go.Hh Go.Proofs
theorem beqS_true {a b : ByteArray} : beqS a b = true ↔ a = b := by rw [beqS_eq]; simp
theorem vcheck_cases {v : Val} (h : vCheckM v = 0) : (v.kind = 0 ∧ v.n = 0 ∧ v.s = ⟨#[]⟩) ∨ ((v.kind = 1 ∨ v.kind = 2 ∨ v.kind = 3) ∧ v.s = ⟨#[]⟩ ∧ -1099511627776 ≤ v.n ∧ v.n ≤ 1099511627776) ∨ (v.kind = 4 ∧ v.n = 0 ∧ v.s.size ≤ 60) := by
 have hsz := vcheck_size h
 unfold vCheckM at h
 cases hA : (((v.kind == 0) || (v.kind == 4)) || ((v.kind == 1) || ((v.kind == 2) || (v.kind == 3)))) with
 | false => rw [hA] at h; cases h
 | true =>
  rw [hA] at h
  cases hB : (bif ((v.kind == 0) || (v.kind == 4)) then (v.n == 0) else (bif (v.kind == 1) then ((v.n == 0) || (v.n == 1)) else (bif (v.kind == 2) then inRangeM v.n else (decide (v.n ≥ 0) && decide (v.n ≤ 63))))) with
  | false => rw [hB] at h; cases h
  | true =>
   rw [hB] at h
   simp only [cond_true, Bool.not_true, cond_false] at h
   simp only [cond_eq_ite] at h
   split at h
   ·cases h
   ·split at h
    ·cases h
    ·rename_i h3
     have hs : v.kind ≠ 4 → v.s = ⟨#[]⟩ := fun hk => by
      simp only [Bool.and_eq_true, bne_iff_ne, ne_eq, not_and, Decidable.not_not, Bool.not_eq_true'] at h3
      cases hq : beqS v.s ⟨#[]⟩ with
      | true => exact beqS_true.1 hq
      | false => exact absurd (h3 hq) hk
     simp only [Bool.or_eq_true, beq_iff_eq] at hA
     rcases hA with (h0 | h4) | h1 | h2 | h3
     ·exact .inl ⟨h0, by simpa [h0] using hB, hs (by omega)⟩
     ·exact .inr (.inr ⟨h4, by simpa [h4] using hB, hsz⟩)
     ·refine .inr (.inl ⟨.inl h1, hs (by omega), ?_⟩)
      simp [h1] at hB
      omega
     ·refine .inr (.inl ⟨.inr (.inl h2), hs (by omega), ?_⟩)
      simp [h2, inRangeM] at hB
      omega
     ·refine .inr (.inl ⟨.inr (.inr h3), hs (by omega), ?_⟩)
      simp [h3] at hB
      omega
theorem put_eq {v : Val} (h : vCheckM v = 0) : putM v = if v.kind = 1 ∨ v.kind = 2 ∨ v.kind = 3 then wintM v.kind ++ wintM v.n else if v.kind = 4 then wintM v.kind ++ wtextM v.s else wintM v.kind := by
 have h1 : putM_v1 v = v := by
  unfold putM_v1
  rw [show (vCheckM v != 0) = false by simpa using h]
  rfl
 unfold putM
 rw [h1]
 simp only [cond_eq_ite, Bool.or_eq_true, beq_iff_eq]
end Go.Proofs.Ytnnlaccdendkpaa
