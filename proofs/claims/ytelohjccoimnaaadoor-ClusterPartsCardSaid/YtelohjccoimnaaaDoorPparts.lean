/- Chapter 21: the statement ClusterParts computes true. Conditions: none. -/
import Derived.Test.YtelohjccoimnaaaDoorPb
import Derived.Test.YtelohjccoimnaaaDoorA11
namespace Go.Proofs.YtelohjccoimnaaaDoor
open Go Go.Av Go.Hh Go.Proofs
theorem lPartsM_true (l : List Cluster) : lPartsM l = true := by
  unfold lPartsM
  simp only [Bool.or_eq_true]
  right
  cases h1 : lPartsM_L1 l with
  | some r =>
    obtain ⟨k, _, _, hk, _⟩ := scanN_get h1
    unfold lPartsM_B1 at hk
    simp only [cond_eq_ite] at hk
    split at hk
    · split at hk
      · simp only [Option.some.injEq] at hk
        exact hk.symm
      · cases hk
    · cases hk
  | none =>
    simp only [Option.getD_none, Bool.or_eq_true, bne_iff_ne]
    by_cases ha : allM l = 0
    · right
      obtain ⟨_, hc, hd⟩ := all_spec ha
      have h2 : lPartsM_L2 l = none := scan_none fun k hk => by
        unfold lPartsM_B2
        rw [List.getElem?_eq_getElem hk]
        simp only [cond_eq_ite]
        have he : l[k]? = some l[k] := List.getElem?_eq_getElem hk
        rw [hc k _ he]
        simp only [bne_self_eq_false, Bool.false_eq_true, if_false]
        refine scan_none fun j hj => ?_
        unfold lPartsM_B3
        rw [List.length_take] at hj
        have hjl : j < l.length := by omega
        rw [List.getElem?_take, if_pos (by omega), List.getElem?_eq_getElem hjl]
        simp only [cond_eq_ite]
        rw [beqS_comm, hd k j _ _ he (List.getElem?_eq_getElem hjl) (by omega)]
        rfl
      rw [h2]
      rfl
    · exact .inl ha
end Go.Proofs.YtelohjccoimnaaaDoor
