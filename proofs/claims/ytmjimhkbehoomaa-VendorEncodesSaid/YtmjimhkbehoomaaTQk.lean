/- Vendor: Decode goes three bytes by three, as the reference does. Conditions: none. -/
import Derived.Test.YtmjimhkbehoomaaTQj
namespace Go.Proofs.Ytmjimhkbehoomaa
open Go Go.Av Go.Hh Go.Proofs
def fin (x : (List ItemV × Int) ⊕ List ItemV) : List ItemV × Int :=
  match x with
  | .inl e => e
  | .inr o => (o, 0)
end Go.Proofs.Ytmjimhkbehoomaa
