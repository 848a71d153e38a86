/- RolloutAsks: what the statement computes is true. Conditions: none. -/
import Derived.Test.YtjgpnceaicijcaaPB8
import Derived.Test.YtjgpnceaicijcaaPQc
namespace Go.Proofs.Ytjgpnceaicijcaa
open Go Go.Av Go.Hh Go.Proofs
theorem lAsksM_true (l : List Update) (f : Firmware) : lAsksM l f = true := by
  unfold lAsksM
  cases hf : fewM l with
  | false => rfl
  | true =>
    have hg : Good l := few_good (by rw [hf]; rfl)
    rw [waveOf_eq l f hg.len, stopped_eq, send_eq, samePairs_refl]
    simp
end Go.Proofs.Ytjgpnceaicijcaa
