/- The AV calculus: a printed step for calls that are handed own blocks. Conditions: none. -/
import Derived.Test.YtjgpnceaicijcaaPNb
import Derived.Test.YtjgpnceaicijcaaPMz
namespace Go.Av
open Go

def nodupB : List Nat → Bool
  | [] => true
  | k :: r => !(r.any (Nat.beq k)) && nodupB r
theorem nodupB_spec : ∀ {l : List Nat}, nodupB l = true → l.Nodup
  | [], _ => List.nodup_nil
  | k :: r, h => by
    simp only [nodupB, Bool.and_eq_true, Bool.not_eq_true'] at h
    refine List.nodup_cons.2 ⟨fun hk => ?_, nodupB_spec h.2⟩
    have := List.any_eq_true.2 ⟨k, hk, Nat.beq_refl k⟩
    rw [h.1] at this
    cases this

end Go.Av
