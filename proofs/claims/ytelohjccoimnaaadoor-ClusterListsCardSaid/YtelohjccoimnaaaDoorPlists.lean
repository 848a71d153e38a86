/- Chapter 21: the statement ClusterLists computes true. Conditions: none. -/
import Derived.Test.YtelohjccoimnaaaDoorPd
import Derived.Test.YtelohjccoimnaaaDoorA12
namespace Go.Proofs.YtelohjccoimnaaaDoor
open Go Go.Av Go.Hh Go.Proofs
theorem lListsM_true (l : List Cluster) : lListsM l = true := by
  unfold lListsM
  rw [Bool.or_eq_true]
  refine .inr ?_
  cases hL : lListsM_L1 l with
  | some r =>
    obtain ⟨k, _, _, hk, _⟩ := scanN_get hL
    unfold lListsM_B1 at hk
    simp only [cond_eq_ite] at hk
    split at hk
    · split at hk
      · cases hk; rfl
      · cases hk
    · cases hk
  | none =>
    cases l with
    | nil => simp [all_eq]
    | cons a r => simp [all_eq]
end Go.Proofs.YtelohjccoimnaaaDoor
