/- Messages: values, items and fields that are written and read. Conditions: none. -/
import Derived.Test.YtnnlaccdendkpaaVRf
namespace Go.Proofs.Ytnnlaccdendkpaa
open Go Go.Av Go.Hh Go.Proofs
theorem beqS_true {a b : ByteArray} : beqS a b = true ↔ a = b := by rw [beqS_eq]; simp
def tk (r : Rd) : Val × Rd :=
 if (rdIntM r).1 = 1 ∨ (rdIntM r).1 = 2 ∨ (rdIntM r).1 = 3 then (⟨(rdIntM r).1, (rdIntM (rdIntM r).2).1, ⟨#[]⟩⟩, (rdIntM (rdIntM r).2).2)
 else if (rdIntM r).1 = 4 then (⟨(rdIntM r).1, 0, (rdTextM (rdIntM r).2 60).1⟩, (rdTextM (rdIntM r).2 60).2) else (⟨(rdIntM r).1, 0, ⟨#[]⟩⟩, (rdIntM r).2)
theorem tk_v (r : Rd) : takeM_v1 r = (tk r).1 ∧ takeM_v2 r = (tk r).2 := by
 unfold takeM_v1 takeM_v2 tk
 simp only [cond_eq_ite, Bool.or_eq_true, beq_iff_eq]
 split
 ·exact ⟨rfl, rfl⟩
 ·split <;> exact ⟨rfl, rfl⟩
theorem take_eq (r : Rd) : takeM r = if vCheckM (tk r).1 = 0 then (if rdErrM (tk r).2 = 0 then tk r else (⟨0, 0, ⟨#[]⟩⟩, (tk r).2)) else (⟨0, 0, ⟨#[]⟩⟩, rdFailM (tk r).2 4) := by
 have hf : ∀ r : Rd, rdErrM (rdFailM r 4) ≠ 0 := by
  intro r h
  unfold rdFailM at h
  by_cases h0 : rdErrM r = 0
  ·rw [show (rdErrM r == 0) = true by simpa using h0] at h
   rw [rd_ok h0] at h
   cases h
  ·rw [show (rdErrM r == 0) = false by simpa using h0] at h
   exact h0 h
 unfold takeM takeM_v3
 rw [(tk_v r).1, (tk_v r).2]
 by_cases h1 : vCheckM (tk r).1 = 0
 ·rw [if_pos h1, show (vCheckM (tk r).1 != 0) = false by simpa using h1, cond_false]
  by_cases h2 : rdErrM (tk r).2 = 0
  ·rw [if_pos h2, show (rdErrM (tk r).2 != 0) = false by simpa using h2]
   rfl
  ·rw [if_neg h2, show (rdErrM (tk r).2 != 0) = true by simpa using h2]
   rfl
 ·rw [if_neg h1, show (vCheckM (tk r).1 != 0) = true by simpa using h1, cond_true, show (rdErrM (rdFailM (tk r).2 4) != 0) = true by simpa using hf _]
  rfl
theorem take_bad {r : Rd} (h : rdErrM r ≠ 0) : takeM r = (⟨0, 0, ⟨#[]⟩⟩, r) := by
 have ht : tk r = (⟨0, 0, ⟨#[]⟩⟩, r) := by
  unfold tk
  rw [int_bad h]
  rfl
 rw [take_eq, ht]
 have : vCheckM (⟨0, 0, ⟨#[]⟩⟩ : Val) = 0 := by decide
 rw [if_pos this, if_neg h]
end Go.Proofs.Ytnnlaccdendkpaa
