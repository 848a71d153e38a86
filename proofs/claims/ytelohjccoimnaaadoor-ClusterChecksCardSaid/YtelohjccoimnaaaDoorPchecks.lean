/- Chapter 21: the statement ClusterChecks computes true. Conditions: none. -/
import Derived.Test.YtelohjccoimnaaaDoorPd
import Derived.Test.YtelohjccoimnaaaDoorA11
namespace Go.Proofs.YtelohjccoimnaaaDoor
open Go Go.Av Go.Hh Go.Proofs
theorem lChecksM_true (c : Cluster) : lChecksM c = true := by
  unfold lChecksM
  rw [check_eq]
  simp
end Go.Proofs.YtelohjccoimnaaaDoor
