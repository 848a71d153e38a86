/- Messages: the laws, in plain Lean. Conditions: none. -/
import Derived.Test.YtnnlaccdendkpaaURk
import Derived.Test.YtnnlaccdendkpaaURj
namespace Go.Proofs.Ytnnlaccdendkpaa
open Go Go.Av Go.Hh Go.Proofs
theorem lEncodes_true (m : MsgV) : lEncodesM m = true := by
 unfold lEncodesM
 rw [awake_true, encode_eq, beqS_true.2 rfl]
 cases smallM m <;> simp
end Go.Proofs.Ytnnlaccdendkpaa
