/- The AV calculus, part S: plain laws of loops. Conditions: none. -/
import Derived.Test.YtjgpnceaicijcaaPMr
namespace Go.Av
open Go

theorem scanN_get {R : Type} {b : Nat → Option R} {r : R} : ∀ {m k : Nat}, scanN b k m = some r → ∃ j, k ≤ j ∧ j < k + m ∧ b j = some r ∧ ∀ i, k ≤ i → i < j → b i = none
  | 0, k, h => by simp [scanN] at h
  | m + 1, k, h => by
    simp only [scanN] at h
    split at h
    · rename_i r' hb
      simp only [Option.some.injEq] at h
      subst h
      exact ⟨k, Nat.le_refl _, by omega, hb, fun i h1 h2 => by omega⟩
    · rename_i hb
      obtain ⟨j, h1, h2, h3, h4⟩ := scanN_get h
      refine ⟨j, by omega, by omega, h3, fun i h5 h6 => ?_⟩
      by_cases hi : i = k
      · subst hi; exact hb
      · exact h4 i (by omega) h6

theorem scanN_all {R : Type} {b : Nat → Option R} : ∀ {m k : Nat}, scanN b k m = none ↔ ∀ j, k ≤ j → j < k + m → b j = none
  | 0, k => by simp [scanN]; intro j h1 h2; omega
  | m + 1, k => by
    simp only [scanN]
    constructor
    · intro h
      split at h
      · cases h
      · rename_i hb
        intro j h1 h2
        by_cases hj : j = k
        · subst hj; exact hb
        · exact scanN_all.1 h j (by omega) (by omega)
    · intro h
      rw [h k (Nat.le_refl _) (by omega)]
      exact scanN_all.2 fun j h1 h2 => h j (by omega) (by omega)

theorem scanN_congr {R : Type} {b c : Nat → Option R} : ∀ {m k : Nat}, (∀ j, k ≤ j → j < k + m → b j = c j) → scanN b k m = scanN c k m
  | 0, _, _ => rfl
  | m + 1, k, h => by
    simp only [scanN]
    rw [h k (Nat.le_refl _) (by omega), scanN_congr fun j h1 h2 => h j (by omega) (by omega)]

end Go.Av
