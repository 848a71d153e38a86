/- VendorEncodes: what the statement computes is true. Conditions: none. -/
import Derived.Test.YtmjimhkbehoomaaTB8
import Derived.Test.YtmjimhkbehoomaaTQl
namespace Go.Proofs.Ytmjimhkbehoomaa
open Go Go.Av Go.Hh Go.Proofs
theorem lEncodesM_true (c : Codec) (h : Home) (l : List ItemV) : lEncodesM c h l = true := by
  unfold lEncodesM
  cases hl : largeM c h with
  | true => rfl
  | false =>
    rw [encode_eq c h l (large_fields hl), beqS_refl]
    simp
end Go.Proofs.Ytmjimhkbehoomaa
