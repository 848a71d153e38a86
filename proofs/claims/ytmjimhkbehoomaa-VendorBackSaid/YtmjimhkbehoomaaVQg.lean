/- Devices: what a valid home says of its clusters and attributes; finding. Conditions: none. -/
import Derived.Test.YtmjimhkbehoomaaVQb
namespace Go.Proofs.Ytmjimhkbehoomaa
open Go Go.Av Go.Hh Go.Proofs
theorem check_l1 {c : Cluster} (h : checkM c = 0) : checkM_L1 c = none := by
  unfold checkM at h
  simp only [cond_eq_ite] at h
  split at h
  · cases h
  · split at h
    · cases h
    · refine (getD_zero h (scan_ne fun k r hk => ?_)).1
      unfold checkM_B1 at hk
      simp only [cond_eq_ite] at hk
      split at hk
      · split at hk
        · rename_i hq
          simp only [Option.some.injEq] at hk
          subst hk
          simpa using hq
        · obtain ⟨j, _, _, hj, _⟩ := scanN_get hk
          unfold checkM_B2 at hj
          simp only [cond_eq_ite] at hj
          split at hj
          · split at hj
            · simp only [Option.some.injEq] at hj
              subst hj; decide
            · cases hj
          · cases hj
      · cases hk
theorem check_def {c : Cluster} (h : checkM c = 0) {j : Nat} {a : Attr} (ha : c.attrs[j]? = some a) : defM a = 0 := by
  have := scan_at (check_l1 h) (getElem_lt ha)
  unfold checkM_B1 at this
  simp only [ha, cond_eq_ite] at this
  split at this
  · cases this
  · rename_i hq
    simpa using hq
theorem devCheck_all {h : Home} (h0 : devCheckM h = 0) : allM h.clusters = 0 := by
  unfold devCheckM at h0
  simp only [cond_eq_ite] at h0
  split at h0
  · rename_i hq
    rw [h0] at hq
    exact absurd hq (by decide)
  · rename_i hq
    simpa using hq
theorem devFind_check {h : Home} {n : Int} (hf : (devFindM h n).2 = true) : devCheckM h = 0 := by
  unfold devFindM at hf
  simp only [cond_eq_ite] at hf
  split at hf
  · cases hf
  · rename_i hq
    simpa using hq
theorem clusters_valid {h : Home} (h0 : devCheckM h = 0) {j : Nat} {c : Cluster} (hc : h.clusters[j]? = some c) : checkM c = 0 := (all_spec (devCheck_all h0)).2.1 j c hc
theorem find_fit {h : Home} {n : Int} {x : ByteArray} (hf : (devFindM h n).2 = true) (hg : (mget (clustersM h) x).isSome = true) : FitA ((mget (clustersM h) x).getD default) := by
  have h0 := devFind_check hf
  rw [clusters_eq (all_names (devCheck_all h0))] at hg ⊢
  rcases mget_map (l := h.clusters) (x := x) with ⟨h1, _⟩ | ⟨j, c, h1, h2, _⟩
  · rw [h1] at hg; cases hg
  · rw [h1]
    exact check_fit (check_l1 (clusters_valid h0 h2))
theorem fit_zero : FitA (⟨⟨#[]⟩, [], [], []⟩ : Cluster) := fun _ h => nomatch h
theorem loopS_inl {R A : Type} {b : Nat → A → Step R A} : ∀ {m k : Nat} {a : A} {r : R}, loopS b k m a = .inl r → ∃ j a1, b j a1 = .ret r
  | 0, k, a, r, h => by simp [loopS] at h
  | m + 1, k, a, r, h => by
    unfold loopS at h
    split at h
    · rename_i r' hb
      cases h
      exact ⟨k, a, hb⟩
    · cases h
    · exact loopS_inl h
end Go.Proofs.Ytmjimhkbehoomaa
