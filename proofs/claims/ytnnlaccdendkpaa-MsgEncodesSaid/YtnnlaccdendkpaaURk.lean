/- Readers: the program's and the reference's go the same way. Conditions: none. -/
import Derived.Test.YtnnlaccdendkpaaURj
namespace Go.Proofs.Ytnnlaccdendkpaa
open Go Go.Av Go.Hh Go.Proofs
def Rel (r : Rd) (q : RRd) : Prop := RdOk q ∧ r = ⟨q.s.extract q.at_.toNat q.s.size, q.bad, q.made⟩
end Go.Proofs.Ytnnlaccdendkpaa
