/- Chapter 21: the statement ClusterApplies computes true. Conditions: none. -/
import Derived.Test.YtelohjccoimnaaaDoorPe
import Derived.Test.YtelohjccoimnaaaDoorA11
namespace Go.Proofs.YtelohjccoimnaaaDoor
open Go Go.Av Go.Hh Go.Proofs
theorem lAppliesM_true (c : Cluster) (command : ByteArray) (param : Val) (vals : List Val) : lAppliesM c command param vals = true := by
  unfold lAppliesM
  rw [apply_eq, sameValues_refl]
  simp
end Go.Proofs.YtelohjccoimnaaaDoor
