/- Chapter 21: the statement ClusterStandard computes true. Conditions: none. -/
import Derived.Test.YtelohjccoimnaaaDoorA11
namespace Go.Proofs.YtelohjccoimnaaaDoor
open Go Go.Av Go.Hh Go.Proofs
set_option maxRecDepth 100000
theorem std_len : stdM.length = 8 := by kernel_rfl
theorem std_pre : ((((((stdM ).length : Nat) : Int) != (((rstdM ).length : Nat) : Int)) || (allM (stdM ) != 0))) = false := by kernel_rfl
theorem std_same : scanN (lStandardM_B1 0) 0 ((stdM ).length) = none := by kernel_rfl
theorem std_each : (List.range 8).all (fun k => allM (((stdM ).take (k + 1)).drop k) == 0) = true := by kernel_rfl
theorem lStandardM_true (i : Int) : lStandardM i = true := by
  unfold lStandardM
  rw [std_pre]
  have h1 : lStandardM_L1 i = none := std_same
  rw [h1]
  simp only [cond_false, Option.getD_none, Bool.not_eq_true', Bool.and_eq_false_iff]
  by_cases h : 0 ≤ i ∧ i < 8
  · right
    have := List.all_eq_true.1 std_each i.toNat (List.mem_range.2 (by omega))
    have e : (i + 1).toNat = i.toNat + 1 := by omega
    rw [e]
    simpa using this
  · left
    rw [std_len]
    by_cases h0 : 0 ≤ i
    · right
      exact decide_eq_false (by omega)
    · left
      exact decide_eq_false (by omega)
end Go.Proofs.YtelohjccoimnaaaDoor
