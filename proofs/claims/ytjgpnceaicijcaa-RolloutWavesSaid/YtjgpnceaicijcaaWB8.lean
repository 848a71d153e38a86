/- The statements: what they compute. -/
import Derived.Test.YtjgpnceaicijcaaWB7
import Derived.Test.YtjgpnceaicijcaaWQd
namespace Go.Proofs.Ytjgpnceaicijcaa
open Go Go.Av Go.Hh Go.Proofs
set_option maxRecDepth 100000
set_option maxHeartbeats 4000000
theorem awake_true : awakeM rstdM = true := by kernel_rfl
theorem awake_ok : ACalls Try.prog G_ 9 [] [] 0 (fun r τ => r = vb true ∧ τ = []) := awake_true ▸ awakeM_ok rstdM rstdM_ok
theorem home_dev {h : Home} (hh : (!(homeM h)) = false) : h.devices.length ≤ 1000000 := by
  have hh : homeM h = true := by simpa using hh
  unfold homeM at hh
  simp only [cond_eq_ite] at hh
  split at hh
  · cases hh
  · rename_i h1
    simp only [Bool.or_eq_true, decide_eq_true_eq, not_or] at h1
    omega
end Go.Proofs.Ytjgpnceaicijcaa
