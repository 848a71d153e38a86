/- RolloutSteps: what the statement computes is true. Conditions: none. -/
import Derived.Test.YtjgpnceaicijcaaPB8
import Derived.Test.YtjgpnceaicijcaaPQc
namespace Go.Proofs.Ytjgpnceaicijcaa
open Go Go.Av Go.Hh Go.Proofs
theorem step_eq (l : List Update) (f : Firmware) (o : Op51) (hl : l.length ≤ 1000000) : stepM l f o = rstepM l f o := by
  unfold stepM rstepM
  rw [start_eq l f _ hl, have_eq, install_eq, confirm_eq, overdue_eq]
theorem lStepsM_true (l : List Update) (f : Firmware) (o : Op51) : lStepsM l f o = true := by
  unfold lStepsM
  cases hf : fewM l with
  | false => rfl
  | true =>
    have hg : Good l := few_good (by rw [hf]; rfl)
    rw [step_eq l f o hg.len, same_refl]
    simp
end Go.Proofs.Ytjgpnceaicijcaa
