/- Messages: what was encoded is decoded, and nothing else. Conditions: none. -/
import Derived.Test.YtnnlaccdendkpaaURh
namespace Go.Proofs.Ytnnlaccdendkpaa
open Go Go.Av Go.Hh Go.Proofs
def Bad {α : Type} (read : Rd → α × Rd) : Prop := ∀ r, rdErrM r ≠ 0 → rdErrM (read r).2 ≠ 0
theorem Bad.int : Bad rdIntM := fun r h => by rw [int_bad h]; exact h
def encM (m : MsgV) : ByteArray := wintM m.kind ++ encBody m
theorem encode_ok {m : MsgV} (h : mCheckM m = 0) : encodeM m = (encM m, 0) := by
 unfold encodeM
 rw [show (mCheckM m != 0) = false by simpa using h, bodyE_eq]
 rfl
theorem encode_bad {m : MsgV} (h : mCheckM m ≠ 0) : encodeM m = (⟨#[]⟩, mCheckM m) := by
 unfold encodeM
 rw [show (mCheckM m != 0) = true by simpa using h]
 rfl
end Go.Proofs.Ytnnlaccdendkpaa
