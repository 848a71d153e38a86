/- Rollout: the program's small functions and the reference's compute the same. Conditions: none. -/
import Derived.Test.YtjgpnceaicijcaaPQb
import Derived.Test.YtjgpnceaicijcaaPB4
import Derived.Test.YtjgpnceaicijcaaPB5
namespace Go.Proofs.Ytjgpnceaicijcaa
open Go Go.Av Go.Hh Go.Proofs
theorem iterN_congrK {A : Type} {b c : Nat → A → A} : ∀ (m k : Nat) (a : A), (∀ j a, k ≤ j → j < k + m → b j a = c j a) → iterN b k m a = iterN c k m a
  | 0, _, _, _ => rfl
  | m + 1, k, a, h => by
    rw [iterN, iterN, h k a (Nat.le_refl _) (by omega)]
    exact iterN_congrK m (k + 1) _ fun j a h1 h2 => h j a (by omega) (by omega)
theorem fw_eq (f : Firmware) : fwCheckM f = rfwCheckM f := by
  have h1 : (!(namedM f.vendor f.version)) = ((decide (f.vendor < 0) || (decide (f.vendor > 255) || decide (f.version < 1))) || decide (f.version > 65535)) := by
    unfold namedM
    rw [Bool.eq_iff_iff]
    simp only [Bool.not_eq_true', Bool.and_eq_false_iff, Bool.or_eq_true, decide_eq_true_eq, decide_eq_false_iff_not]
    omega
  have h2 : fwCheckM_L1 f = rfwCheckM_L1 f := scan_eq fun j _ => by
    unfold fwCheckM_B1 rfwCheckM_B1
    cases f.sums[j]? with
    | none => rfl
    | some e =>
      simp only
      cases decide (e < 0) <;> cases decide (e > 4294967295) <;> rfl
  unfold fwCheckM rfwCheckM
  rw [h1, h2]
theorem version_eq (l : List Pair) (n : Int) : versionM l n = rversionM l n := by
  unfold versionM rversionM
  congr 1
  refine scan_eq fun j _ => ?_
  unfold versionM_B1 rversionM_B1
  cases l[j]? with
  | none => rfl
  | some e =>
    simp only [cond_eq_ite, bne, Bool.not_eq_true', decide_eq_true_eq]
    cases h : (e.a0 == n) with
    | false => simp
    | true =>
      simp only [if_true]
      repeat' split
      all_goals first | rfl | omega | simp_all | (exfalso; omega)
theorem new_eq (h : Home) (f : Firmware) (v : List Pair) : newM h f v = rnewM h f v := by
  have hb : newM_L1 h f v [] = rnewM_L1 h f v [] := by
    unfold newM_L1 rnewM_L1
    refine iterN_congrK _ _ _ fun j a h1 h2 => ?_
    unfold newM_B1 rnewM_B1
    simp only [version_eq]
  unfold newM rnewM
  rw [dev_eq, fw_eq, hb]
  cases hd : (rdevCheckM h != 0) with
  | true =>
    have : (rdevCheckM h == 0) = false := by simpa [bne] using hd
    simp only [this, cond_false, cond_true, hd]
  | false =>
    have : (rdevCheckM h == 0) = true := by simpa [bne] using hd
    simp only [this, cond_false, cond_true]
theorem sameFlags_refl (a : List Bool) : sameFlagsM a a = true := by
  unfold sameFlagsM sameFlagsM_L1
  rw [scan_none fun j hj => ?_]
  · simp
  · unfold sameFlagsM_B1
    rw [List.getElem?_eq_getElem hj]
    simp
theorem same_refl (a : List Update) : sameM a a = true := by
  unfold sameM sameM_L1
  rw [scan_none fun j hj => ?_]
  · simp
  · unfold sameM_B1
    rw [List.getElem?_eq_getElem hj]
    simp [sameFlags_refl]
end Go.Proofs.Ytjgpnceaicijcaa
