/- Messages: what the bounds and the checks say; the program and the reference check the same. Conditions: none. -/
import Derived.Test.YtnnlaccdendkpaaVB9
namespace Go.Proofs.Ytnnlaccdendkpaa
open Go Go.Av Go.Hh Go.Proofs
abbrev mz : MsgV := ⟨0, 0, 0, 0, [], ⟨#[]⟩, ⟨#[]⟩, ⟨#[]⟩⟩
abbrev mk0 (k : Int) : MsgV := ⟨k, 0, 0, 0, [], ⟨#[]⟩, ⟨#[]⟩, ⟨#[]⟩⟩
def fin (q : MsgV) (e c : Int) : MsgV × Int := if e ≠ 0 then (mz, e) else if c ≠ 0 then (mz, c) else (q, 0)
theorem fin_eq (q : MsgV) (e c : Int) : (bif ((bif (e == 0) then c else e) != 0) then (mz, (bif (e == 0) then c else e)) else (q, 0)) = fin q e c := by
 unfold fin
 by_cases he : e = 0
 ·subst he
  by_cases hc : c = 0
  ·subst hc; rfl
  ·simp [cond_eq_ite, hc]
 ·simp [cond_eq_ite, he]
theorem decode_eq (s : ByteArray) : decodeM s = if rdErrM (rdIntM (newRd s)).2 ≠ 0 then (mz, rdErrM (rdIntM (newRd s)).2) else if (rdIntM (newRd s)).1 < 1 ∨ 7 < (rdIntM (newRd s)).1 then (mz, 7) else
    fin (bodyDM (rdIntM (newRd s)).2 (mk0 (rdIntM (newRd s)).1)).1 (rdEndM (bodyDM (rdIntM (newRd s)).2 (mk0 (rdIntM (newRd s)).1)).2) (mCheckM (bodyDM (rdIntM (newRd s)).2 (mk0 (rdIntM (newRd s)).1)).1) := by
  rw [← fin_eq]
  unfold decodeM
  generalize rdIntM (newRd s) = p
  simp only [cond_eq_ite, bne_iff_ne, ne_eq, Bool.or_eq_true, decide_eq_true_eq, gt_iff_lt]
end Go.Proofs.Ytnnlaccdendkpaa
