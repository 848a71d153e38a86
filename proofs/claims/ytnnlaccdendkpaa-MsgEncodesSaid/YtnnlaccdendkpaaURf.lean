/- Readers: what was written is read, and nothing else. Conditions: none. -/
import Derived.Test.YtnnlaccdendkpaaURd
import Derived.Laws.DeepNot64
namespace Go.Proofs.Ytnnlaccdendkpaa
open Go Go.Av Go.Hh Go.Proofs
theorem int_bad {r : Rd} (h : rdErrM r ≠ 0) : rdIntM r = (0, r) := by
 unfold rdIntM
 rw [show (rdErrM r != 0) = true by simpa using h]
 rfl
end Go.Proofs.Ytnnlaccdendkpaa
