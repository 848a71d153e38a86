/- The reference's readers. -/
import Derived.Test.YtnnlaccdendkpaaUB2
namespace Go.Proofs.Ytnnlaccdendkpaa
open Go Go.Av Go.Hh Go.Proofs
set_option maxRecDepth 100000
set_option maxHeartbeats 4000000
def RdOk (r : RRd) : Prop := 0 ≤ r.at_ ∧ r.at_ ≤ (r.s.size : Int) ∧ r.s.size ≤ 1000000
end Go.Proofs.Ytnnlaccdendkpaa
