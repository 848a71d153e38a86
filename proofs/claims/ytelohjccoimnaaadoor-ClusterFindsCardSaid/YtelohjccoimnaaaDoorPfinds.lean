/- Chapter 21: the statement ClusterFinds computes true. Conditions: none. -/
import Derived.Test.YtelohjccoimnaaaDoorPd
import Derived.Test.YtelohjccoimnaaaDoorA11
namespace Go.Proofs.YtelohjccoimnaaaDoor
open Go Go.Av Go.Hh Go.Proofs
theorem lFindsM_true (c : Cluster) (x : ByteArray) : lFindsM c x = true := by
  unfold lFindsM
  rw [attr_eq, command_eq, sameAttr_refl, sameCommand_refl]
  simp
end Go.Proofs.YtelohjccoimnaaaDoor
