/- Messages: what the bounds and the checks say; the program and the reference check the same. Conditions: none. -/
import Derived.Test.YtnnlaccdendkpaaGreatPB9
namespace Go.Proofs.YtnnlaccdendkpaaGreat
open Go Go.Av Go.Hh Go.Proofs
theorem small_spec {m : MsgV} (h : (!(smallM m)) = false) : m.items.length ≤ 12 ∧ m.data.size ≤ 600 ∧ m.cluster.size ≤ 600 ∧ m.name.size ≤ 600 ∧ ∀ x ∈ m.items, x.key.cluster.size ≤ 600 ∧ x.key.attr.size ≤ 600 ∧ x.value.s.size ≤ 600 := by
 have h : smallM m = true := by simpa using h
 unfold smallM at h
 simp only [cond_eq_ite] at h
 split at h
 ·cases h
 ·rename_i hq
  simp only [Bool.or_eq_true, decide_eq_true_eq, not_or, Int.not_lt, gt_iff_lt] at hq
  obtain ⟨⟨q1, q2, q3⟩, q4⟩ := hq
  refine ⟨by omega, by omega, by omega, by omega, fun x hx => ?_⟩
  obtain ⟨j, hj⟩ := List.getElem?_of_mem hx
  have hlt : j < m.items.length := (List.getElem?_eq_some_iff.1 hj).1
  cases hs : smallM_L1 m with
  | some b =>
   rw [hs] at h
   obtain ⟨j1, _, _, hb, _⟩ := scanN_get hs
   unfold smallM_B1 at hb
   simp only [cond_eq_ite] at hb
   repeat' split at hb
   all_goals first
    | (cases hb; done)
    | (cases hb; cases h)
  | none =>
   have := scan_at hs hlt
   unfold smallM_B1 at this
   simp only [hj, cond_eq_ite] at this
   split at this
   ·cases this
   ·rename_i hq
    simp only [Bool.or_eq_true, decide_eq_true_eq, not_or, Int.not_lt, gt_iff_lt] at hq
    refine ⟨by omega, by omega, by omega⟩
theorem small_d {m : MsgV} (h : (!(smallM m)) = false) : m.data.size ≤ 1000000 := by
 have := (small_spec h).2.1
 omega
end Go.Proofs.YtnnlaccdendkpaaGreat
