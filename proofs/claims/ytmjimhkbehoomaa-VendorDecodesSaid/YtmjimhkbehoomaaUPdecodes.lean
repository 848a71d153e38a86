/- VendorDecodes: what the statement computes is true. Conditions: none. -/
import Derived.Test.YtmjimhkbehoomaaUB8
namespace Go.Proofs.Ytmjimhkbehoomaa
open Go Go.Av Go.Hh Go.Proofs
theorem sameItems_refl (l : List ItemV) : sameItemsM l l = true := by
  unfold sameItemsM
  have : sameItemsM_L1 l l = none := scan_none fun j hj => by
    unfold sameItemsM_B1
    have he : l[j]? = some l[j] := List.getElem?_eq_getElem hj
    rw [he]
    simp [beqS_refl]
  rw [this]
  simp
theorem lDecodesM_true (c : Codec) (h : Home) (x : Raw23) : lDecodesM c h x = true := by
  unfold lDecodesM
  by_cases hz : x.bytes.size ≤ 60
  · rw [decode_eq (by omega), sameItems_refl]
    simp
  · rw [decide_eq_true (show ((x.bytes.size : Nat) : Int) > 60 by omega)]
    simp
end Go.Proofs.Ytmjimhkbehoomaa
