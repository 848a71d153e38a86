/- Chapter 21: the program's functions and the reference's compute the same. Conditions: none. -/
import Derived.Test.YtelohjccoimnaaaDoorPa
import Derived.Laws.RangeString
import Derived.Laws.RangeAny
namespace Go.Proofs.YtelohjccoimnaaaDoor
open Go Go.Av Go.Hh Go.Proofs

theorem beqS_comm (a b : ByteArray) : beqS a b = beqS b a := by rw [beqS_eq, beqS_eq]; exact decide_eq_decide.2 eq_comm
theorem beqS_refl (a : ByteArray) : beqS a a = true := by rw [beqS_eq]; simp
theorem scan_none {R : Type} {b : Nat → Option R} {n : Nat} (h : ∀ j, j < n → b j = none) : scanN b 0 n = none := scanN_all.2 fun j _ hj => h j (by omega)
theorem scan_at {R : Type} {b : Nat → Option R} {n : Nat} (h : scanN b 0 n = none) {j : Nat} (hj : j < n) : b j = none := scanN_all.1 h j (Nat.zero_le _) (by omega)
theorem getElem_lt {α : Type} {l : List α} {k : Nat} {e : α} (h : l[k]? = some e) : k < l.length := (List.getElem?_eq_some_iff.1 h).1
theorem scan_eq {R : Type} {b c : Nat → Option R} {n : Nat} (h : ∀ j, j < n → b j = c j) : scanN b 0 n = scanN c 0 n := scanN_congr fun j _ hj => h j (by omega)

/-- What All gives when it accepts. -/
theorem all_spec {l : List Cluster} (h : allM l = 0) : l.length ≤ 256 ∧ (∀ (k : Nat) (c : Cluster), l[k]? = some c → checkM c = 0) ∧ ∀ (k j : Nat) (c d : Cluster), l[k]? = some c → l[j]? = some d → j < k → beqS d.name c.name = false := by
  unfold allM at h
  simp only [cond_eq_ite] at h
  split at h
  · cases h
  rename_i h0
  obtain ⟨h1, _⟩ := getD_zero h (scan_ne fun k r hk => by
    unfold allM_B1 at hk
    simp only [cond_eq_ite] at hk
    split at hk
    · rename_i e he
      split at hk
      · rename_i hq
        simp only [Option.some.injEq] at hk
        subst hk
        simpa using hq
      · obtain ⟨j, _, _, hj, _⟩ := scanN_get hk
        unfold allM_B2 at hj
        simp only [cond_eq_ite] at hj
        split at hj
        · split at hj
          · simp only [Option.some.injEq] at hj
            subst hj; decide
          · cases hj
        · cases hj
    · cases hk)
  have key : ∀ (k : Nat) (c : Cluster), l[k]? = some c → checkM c = 0 ∧ allM_L2 l k c = none := by
    intro k c hc
    have := scan_at h1 (getElem_lt hc)
    unfold allM_B1 at this
    simp only [hc, cond_eq_ite] at this
    split at this
    · cases this
    · rename_i hq
      exact ⟨by simpa using hq, this⟩
  refine ⟨by simp at h0; omega, fun k c hc => (key k c hc).1, fun k j c d hc hd hjk => ?_⟩
  have h2 := (key k c hc).2
  have hkl := getElem_lt hc
  have := scan_at (n := (l.take k).length) (b := allM_B2 l k c) h2 (j := j) (by rw [List.length_take]; omega)
  unfold allM_B2 at this
  rw [List.getElem?_take, if_pos hjk, hd] at this
  simp only [cond_eq_ite] at this
  split at this
  · cases this
  · rename_i hq
    simpa using hq
end Go.Proofs.YtelohjccoimnaaaDoor
