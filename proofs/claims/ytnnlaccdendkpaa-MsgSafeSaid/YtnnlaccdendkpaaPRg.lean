/- Messages: values, items and fields that are written and read. Conditions: none. -/
import Derived.Test.YtnnlaccdendkpaaPRf
namespace Go.Proofs.Ytnnlaccdendkpaa
open Go Go.Av Go.Hh Go.Proofs
theorem beqS_true {a b : ByteArray} : beqS a b = true ↔ a = b := by rw [beqS_eq]; simp
theorem vcheck_cases {v : Val} (h : vCheckM v = 0) : (v.kind = 0 ∧ v.n = 0 ∧ v.s = ⟨#[]⟩) ∨ ((v.kind = 1 ∨ v.kind = 2 ∨ v.kind = 3) ∧ v.s = ⟨#[]⟩ ∧ -1099511627776 ≤ v.n ∧ v.n ≤ 1099511627776) ∨ (v.kind = 4 ∧ v.n = 0 ∧ v.s.size ≤ 60) := by
 have hsz := vcheck_size h
 unfold vCheckM at h
 cases hA : (((v.kind == 0) || (v.kind == 4)) || ((v.kind == 1) || ((v.kind == 2) || (v.kind == 3)))) with
 | false => rw [hA] at h; cases h
 | true =>
  rw [hA] at h
  cases hB : (bif ((v.kind == 0) || (v.kind == 4)) then (v.n == 0) else (bif (v.kind == 1) then ((v.n == 0) || (v.n == 1)) else (bif (v.kind == 2) then inRangeM v.n else (decide (v.n ≥ 0) && decide (v.n ≤ 63))))) with
  | false => rw [hB] at h; cases h
  | true =>
   rw [hB] at h
   simp only [cond_true, Bool.not_true, cond_false] at h
   simp only [cond_eq_ite] at h
   split at h
   ·cases h
   ·split at h
    ·cases h
    ·rename_i h3
     have hs : v.kind ≠ 4 → v.s = ⟨#[]⟩ := fun hk => by
      simp only [Bool.and_eq_true, bne_iff_ne, ne_eq, not_and, Decidable.not_not, Bool.not_eq_true'] at h3
      cases hq : beqS v.s ⟨#[]⟩ with
      | true => exact beqS_true.1 hq
      | false => exact absurd (h3 hq) hk
     simp only [Bool.or_eq_true, beq_iff_eq] at hA
     rcases hA with (h0 | h4) | h1 | h2 | h3
     ·exact .inl ⟨h0, by simpa [h0] using hB, hs (by omega)⟩
     ·exact .inr (.inr ⟨h4, by simpa [h4] using hB, hsz⟩)
     ·refine .inr (.inl ⟨.inl h1, hs (by omega), ?_⟩)
      simp [h1] at hB
      omega
     ·refine .inr (.inl ⟨.inr (.inl h2), hs (by omega), ?_⟩)
      simp [h2, inRangeM] at hB
      omega
     ·refine .inr (.inl ⟨.inr (.inr h3), hs (by omega), ?_⟩)
      simp [h3] at hB
      omega
def tk (r : Rd) : Val × Rd :=
 if (rdIntM r).1 = 1 ∨ (rdIntM r).1 = 2 ∨ (rdIntM r).1 = 3 then (⟨(rdIntM r).1, (rdIntM (rdIntM r).2).1, ⟨#[]⟩⟩, (rdIntM (rdIntM r).2).2)
 else if (rdIntM r).1 = 4 then (⟨(rdIntM r).1, 0, (rdTextM (rdIntM r).2 60).1⟩, (rdTextM (rdIntM r).2 60).2) else (⟨(rdIntM r).1, 0, ⟨#[]⟩⟩, (rdIntM r).2)
theorem tk_v (r : Rd) : takeM_v1 r = (tk r).1 ∧ takeM_v2 r = (tk r).2 := by
 unfold takeM_v1 takeM_v2 tk
 simp only [cond_eq_ite, Bool.or_eq_true, beq_iff_eq]
 split
 ·exact ⟨rfl, rfl⟩
 ·split <;> exact ⟨rfl, rfl⟩
theorem take_eq (r : Rd) : takeM r = if vCheckM (tk r).1 = 0 then (if rdErrM (tk r).2 = 0 then tk r else (⟨0, 0, ⟨#[]⟩⟩, (tk r).2)) else (⟨0, 0, ⟨#[]⟩⟩, rdFailM (tk r).2 4) := by
 have hf : ∀ r : Rd, rdErrM (rdFailM r 4) ≠ 0 := by
  intro r h
  unfold rdFailM at h
  by_cases h0 : rdErrM r = 0
  ·rw [show (rdErrM r == 0) = true by simpa using h0] at h
   rw [rd_ok h0] at h
   cases h
  ·rw [show (rdErrM r == 0) = false by simpa using h0] at h
   exact h0 h
 unfold takeM takeM_v3
 rw [(tk_v r).1, (tk_v r).2]
 by_cases h1 : vCheckM (tk r).1 = 0
 ·rw [if_pos h1, show (vCheckM (tk r).1 != 0) = false by simpa using h1, cond_false]
  by_cases h2 : rdErrM (tk r).2 = 0
  ·rw [if_pos h2, show (rdErrM (tk r).2 != 0) = false by simpa using h2]
   rfl
  ·rw [if_neg h2, show (rdErrM (tk r).2 != 0) = true by simpa using h2]
   rfl
 ·rw [if_neg h1, show (vCheckM (tk r).1 != 0) = true by simpa using h1, cond_true, show (rdErrM (rdFailM (tk r).2 4) != 0) = true by simpa using hf _]
  rfl
theorem put_eq {v : Val} (h : vCheckM v = 0) : putM v = if v.kind = 1 ∨ v.kind = 2 ∨ v.kind = 3 then wintM v.kind ++ wintM v.n else if v.kind = 4 then wintM v.kind ++ wtextM v.s else wintM v.kind := by
 have h1 : putM_v1 v = v := by
  unfold putM_v1
  rw [show (vCheckM v != 0) = false by simpa using h]
  rfl
 unfold putM
 rw [h1]
 simp only [cond_eq_ite, Bool.or_eq_true, beq_iff_eq]
theorem text60 : Undo (fun r => rdTextM r 60) wtextM (fun s => (s.size : Int) ≤ 60) := text_undo (by decide) (by decide)
theorem int_enc {n : Int} (h1 : -1099511627776 ≤ n) (h2 : n ≤ 1099511627776) (t : ByteArray) : rdIntM (rd0 (wintM n ++ t)) = (n, rd0 t) := int_undo.enc n t ⟨by omega, by omega⟩
theorem take_bad {r : Rd} (h : rdErrM r ≠ 0) : takeM r = (⟨0, 0, ⟨#[]⟩⟩, r) := by
 have ht : tk r = (⟨0, 0, ⟨#[]⟩⟩, r) := by
  unfold tk
  rw [int_bad h]
  rfl
 rw [take_eq, ht]
 have : vCheckM (⟨0, 0, ⟨#[]⟩⟩ : Val) = 0 := by decide
 rw [if_pos this, if_neg h]
theorem take_undo : Undo takeM putM (fun v => vCheckM v = 0) := by
 refine ⟨fun v t hv => ?_, fun r h => ?_⟩
 ·have htk : tk (rd0 (putM v ++ t)) = (v, rd0 t) := by
   rw [put_eq hv]
   obtain ⟨k, n, s⟩ := v
   rcases vcheck_cases hv with ⟨h0, h1, h2⟩ | ⟨h0, h1, h2, h3⟩ | ⟨h0, h1, h2⟩
   ·try dsimp only at h0 h1 h2 ⊢
    subst h0 h1 h2
    rw [if_neg (by decide), if_neg (by decide)]
    unfold tk
    rw [int_enc (by decide) (by decide)]
    try dsimp only
    rw [if_neg (by decide), if_neg (by decide)]
   ·try dsimp only at h0 h1 h2 h3 ⊢
    subst h1
    rw [if_pos h0, ByteArray.append_assoc]
    unfold tk
    rw [int_enc (by omega) (by omega)]
    try dsimp only
    rw [if_pos h0, int_enc h2 h3]
   ·try dsimp only at h0 h1 h2 ⊢
    subst h0 h1
    rw [if_neg (by decide), if_pos rfl, ByteArray.append_assoc]
    unfold tk
    rw [int_enc (by decide) (by decide)]
    try dsimp only
    rw [if_neg (by decide), if_pos rfl]
    have := text60.enc s t (by omega)
    try dsimp only at this
    rw [this]
  rw [take_eq, htk, if_pos hv, if_pos (err0 t)]
 ·rw [take_eq] at h
  split at h
  ·rename_i hv
   split at h
   ·rename_i he
    rw [take_eq, if_pos hv, if_pos he]
    have hI : rdErrM (rdIntM r).2 = 0 := by
     by_cases h0 : rdErrM (rdIntM r).2 = 0
     ·exact h0
     ·exfalso
      unfold tk at he
      split at he
      ·rw [int_bad h0] at he; exact h0 he
      ·split at he
       ·rw [text_bad _ h0] at he; exact h0 he
       ·exact h0 he
    obtain ⟨k, t, rfl, hk, hr⟩ := int_undo.dec r hI
    unfold tk at hv he ⊢
    rw [hr] at hv he ⊢
    try dsimp only at hv he ⊢
    by_cases h3 : k = 1 ∨ k = 2 ∨ k = 3
    ·rw [if_pos h3] at hv he ⊢
     obtain ⟨n, t2, ht, hn, hr2⟩ := int_undo.dec _ he
     cases ht
     rw [hr2] at hv ⊢
     refine ⟨_, t2, ?_, hv, rfl⟩
     rw [put_eq hv, if_pos h3, ByteArray.append_assoc]
    ·rw [if_neg h3] at hv he ⊢
     by_cases h4 : k = 4
     ·rw [if_pos h4] at hv he ⊢
      obtain ⟨s, t2, ht, hs, hr2⟩ := text60.dec _ he
      cases ht
      try dsimp only at hr2
      rw [hr2] at hv ⊢
      refine ⟨_, t2, ?_, hv, rfl⟩
      rw [put_eq hv, if_neg h3, if_pos h4, ByteArray.append_assoc]
     ·rw [if_neg h4] at hv he ⊢
      refine ⟨_, t, ?_, hv, rfl⟩
      rw [put_eq hv, if_neg h3, if_neg h4]
   ·rename_i he
    exact absurd h he
  ·exfalso
   unfold rdFailM at h
   by_cases h0 : rdErrM (tk r).2 = 0
   ·rw [show (rdErrM (tk r).2 == 0) = true by simpa using h0] at h
    rw [rd_ok h0] at h
    cases h
   ·rw [show (rdErrM (tk r).2 == 0) = false by simpa using h0] at h
    exact h0 h
end Go.Proofs.Ytnnlaccdendkpaa
