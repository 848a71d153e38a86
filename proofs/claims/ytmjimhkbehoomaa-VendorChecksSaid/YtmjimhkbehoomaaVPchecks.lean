/- VendorChecks: what the statement computes is true. Conditions: none. -/
import Derived.Test.YtmjimhkbehoomaaVB8
namespace Go.Proofs.Ytmjimhkbehoomaa
open Go Go.Av Go.Hh Go.Proofs
theorem lChecksM_true (c : Codec) (h : Home) : lChecksM c h = true := by
  unfold lChecksM
  rw [venCheck_eq]
  simp
end Go.Proofs.Ytmjimhkbehoomaa
