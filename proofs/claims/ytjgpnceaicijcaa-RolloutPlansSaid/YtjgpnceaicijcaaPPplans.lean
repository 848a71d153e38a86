/- RolloutPlans: what the statement computes is true. Conditions: none. -/
import Derived.Test.YtjgpnceaicijcaaPB8
import Derived.Test.YtjgpnceaicijcaaPQc
namespace Go.Proofs.Ytjgpnceaicijcaa
open Go Go.Av Go.Hh Go.Proofs
theorem lPlansM_true (h : Home) (f : Firmware) (v : List Pair) : lPlansM h f v = true := by
  unfold lPlansM
  rw [new_eq, same_refl]
  simp
end Go.Proofs.Ytjgpnceaicijcaa
