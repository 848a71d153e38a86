/- Devices: what a valid home says of its clusters and attributes; finding. Conditions: none. -/
import Derived.Test.YtmjimhkbehoomaaUQb
namespace Go.Proofs.Ytmjimhkbehoomaa
open Go Go.Av Go.Hh Go.Proofs
theorem check_l1 {c : Cluster} (h : checkM c = 0) : checkM_L1 c = none := by
  unfold checkM at h
  simp only [cond_eq_ite] at h
  split at h
  · cases h
  · split at h
    · cases h
    · refine (getD_zero h (scan_ne fun k r hk => ?_)).1
      unfold checkM_B1 at hk
      simp only [cond_eq_ite] at hk
      split at hk
      · split at hk
        · rename_i hq
          simp only [Option.some.injEq] at hk
          subst hk
          simpa using hq
        · obtain ⟨j, _, _, hj, _⟩ := scanN_get hk
          unfold checkM_B2 at hj
          simp only [cond_eq_ite] at hj
          split at hj
          · split at hj
            · simp only [Option.some.injEq] at hj
              subst hj; decide
            · cases hj
          · cases hj
      · cases hk
theorem check_def {c : Cluster} (h : checkM c = 0) {j : Nat} {a : Attr} (ha : c.attrs[j]? = some a) : defM a = 0 := by
  have := scan_at (check_l1 h) (getElem_lt ha)
  unfold checkM_B1 at this
  simp only [ha, cond_eq_ite] at this
  split at this
  · cases this
  · rename_i hq
    simpa using hq
theorem devCheck_all {h : Home} (h0 : devCheckM h = 0) : allM h.clusters = 0 := by
  unfold devCheckM at h0
  simp only [cond_eq_ite] at h0
  split at h0
  · rename_i hq
    rw [h0] at hq
    exact absurd hq (by decide)
  · rename_i hq
    simpa using hq
theorem devFind_check {h : Home} {n : Int} (hf : (devFindM h n).2 = true) : devCheckM h = 0 := by
  unfold devFindM at hf
  simp only [cond_eq_ite] at hf
  split at hf
  · cases hf
  · rename_i hq
    simpa using hq
theorem clusters_valid {h : Home} (h0 : devCheckM h = 0) {j : Nat} {c : Cluster} (hc : h.clusters[j]? = some c) : checkM c = 0 := (all_spec (devCheck_all h0)).2.1 j c hc
theorem find_fit {h : Home} {n : Int} {x : ByteArray} (hf : (devFindM h n).2 = true) (hg : (mget (clustersM h) x).isSome = true) : FitA ((mget (clustersM h) x).getD default) := by
  have h0 := devFind_check hf
  rw [clusters_eq (all_names (devCheck_all h0))] at hg ⊢
  rcases mget_map (l := h.clusters) (x := x) with ⟨h1, _⟩ | ⟨j, c, h1, h2, _⟩
  · rw [h1] at hg; cases hg
  · rw [h1]
    exact check_fit (check_l1 (clusters_valid h0 h2))
theorem fit_zero : FitA (⟨⟨#[]⟩, [], [], []⟩ : Cluster) := fun _ h => nomatch h
theorem loopS_inl {R A : Type} {b : Nat → A → Step R A} : ∀ {m k : Nat} {a : A} {r : R}, loopS b k m a = .inl r → ∃ j a1, b j a1 = .ret r
  | 0, k, a, r, h => by simp [loopS] at h
  | m + 1, k, a, r, h => by
    unfold loopS at h
    split at h
    · rename_i r' hb
      cases h
      exact ⟨k, a, hb⟩
    · cases h
    · exact loopS_inl h
theorem loopS_inr {R A : Type} {b : Nat → A → Step R A} (hb : ∀ k a a', b k a ≠ .brk a') : ∀ {m k : Nat} {a a' : A}, loopS b k m a = .inr a' → ∀ j, k ≤ j → j < k + m → ∃ a1 a2, b j a1 = .nxt a2
  | 0, k, a, a', _, j, h1, h2 => by omega
  | m + 1, k, a, a', h, j, h1, h2 => by
    unfold loopS at h
    split at h
    · cases h
    · rename_i hk
      exact absurd hk (hb _ _ _)
    · rename_i a2 hk
      rcases Nat.lt_or_ge k j with h3 | h3
      · exact loopS_inr hb h j (by omega) (by omega)
      · have : j = k := by omega
        subst this
        exact ⟨_, _, hk⟩
theorem parts_in {h : Home} {d : Dev} (hp : partsM h d = 0) {k : Nat} {x : ByteArray} (hx : d.clusters[k]? = some x) : 0 ≤ rclusM h x := by
  unfold partsM at hp
  simp only [cond_eq_ite] at hp
  split at hp
  · cases hp
  · split at hp
    · rename_i r hr
      subst hp
      obtain ⟨j, a, hj⟩ := loopS_inl hr
      unfold partsM_B1 at hj
      simp only [cond_eq_ite] at hj
      repeat' split at hj
      all_goals cases hj
    · rename_i a' hr
      obtain ⟨a1, a2, hj⟩ := loopS_inr (b := partsM_B1 h d) (fun k a a' hb => by
        unfold partsM_B1 at hb
        simp only [cond_eq_ite] at hb
        repeat' split at hb
        all_goals cases hb) hr k (Nat.zero_le _) (by have := getElem_lt hx; omega)
      unfold partsM_B1 at hj
      simp only [hx, cond_eq_ite] at hj
      split at hj
      · cases hj
      · rename_i hq
        simp at hq
        omega
theorem dev_len {h : Home} (h0 : rdevCheckM h = 0) : h.devices.length ≤ 20 := by
  unfold rdevCheckM at h0
  simp only [cond_eq_ite] at h0
  split at h0
  · rename_i hq; rw [h0] at hq; exact absurd hq (by decide)
  · split at h0
    · cases h0
    · rename_i hq
      simp at hq
      omega
theorem one_all {h : Home} (h0 : rdevCheckM h = 0) {j : Nat} (hj : j < h.devices.length) : oneDevM h j = 0 := by
  unfold rdevCheckM at h0
  simp only [cond_eq_ite] at h0
  split at h0
  · rename_i hq; rw [h0] at hq; exact absurd hq (by decide)
  · split at h0
    · cases h0
    · have h1 := (getD_zero h0 (scan_ne fun k r hk => by
        unfold rdevCheckM_B1 at hk
        simp only [cond_eq_ite] at hk
        split at hk
        · rename_i hq
          simp only [Option.some.injEq] at hk
          subst hk
          simpa using hq
        · cases hk)).1
      have := scan_at h1 hj
      unfold rdevCheckM_B1 at this
      simp only [cond_eq_ite] at this
      split at this
      · cases this
      · rename_i hq
        simpa using hq
theorem one_spec {h : Home} (hl : h.devices.length ≤ 20) {j : Nat} {d : Dev} (hd : h.devices[j]? = some d) (h1 : oneDevM h j = 0) :
    partsM h d = 0 ∧ 1 ≤ d.id ∧ d.id ≤ 250 ∧ ∀ e, 0 < j → h.devices[j - 1]? = some e → e.id < d.id := by
  have hj := getElem_lt hd
  have tail : (oneDevM_L1 h j d).getD (if (!rvalidM d.room) = true then 10 else partsM h d) = 0 → partsM h d = 0 := by
    intro h2
    have h3 := (getD_zero h2 (scan_ne fun k r hk => by
      unfold oneDevM_B1 at hk
      simp only [cond_eq_ite] at hk
      repeat' split at hk
      all_goals first
        | cases hk; done
        | (cases hk; decide))).2
    split at h3
    · cases h3
    · exact h3
  unfold oneDevM at h1
  simp only [hd, cond_eq_ite] at h1
  split at h1
  · cases h1
  · rename_i hr
    simp only [Bool.or_eq_true, decide_eq_true_eq, not_or, Int.not_lt] at hr
    have hr1 : 1 ≤ d.id ∧ d.id ≤ 250 := by omega
    split at h1
    · rename_i hp
      have hp := of_decide_eq_true hp
      have e1 : (IntKind.i64.wrap (((j : Nat) : Int) - 1)).toNat = j - 1 := by rw [wrap64_of _ (by omega) (by omega)]; omega
      rw [e1] at h1
      split at h1
      · rename_i e he
        split at h1
        · cases h1
        · rename_i hq
          simp only [decide_eq_true_eq, ge_iff_le, Int.not_le] at hq
          exact ⟨tail h1, hr1.1, hr1.2, fun e' _ he' => by rw [he] at he'; cases he'; exact hq⟩
      · rename_i he
        rw [List.getElem?_eq_none_iff] at he
        omega
    · rename_i hp
      simp only [decide_eq_true_eq] at hp
      exact ⟨tail h1, hr1.1, hr1.2, fun e' h2 _ => by omega⟩
theorem part_pos {h : Home} {x : ByteArray} {j : Nat} {d : Dev} (h0 : rdevCheckM h = 0) (hd : h.devices[j]? = some d) (hi : 0 ≤ r04IndexM d.clusters x) : 0 ≤ rclusM h x := by
  have hp := (one_spec (dev_len h0) hd (one_all h0 (getElem_lt hd))).1
  unfold r04IndexM at hi
  cases hs : r04IndexM_L1 d.clusters x with
  | none => rw [hs] at hi; simp at hi
  | some r =>
    obtain ⟨k, _, _, hk, _⟩ := scanN_get hs
    unfold r04IndexM_B1 at hk
    simp only [cond_eq_ite] at hk
    split at hk
    · rename_i e he
      split at hk
      · rename_i hq
        have := beqS_true.1 hq
        subst this
        exact parts_in hp he
      · cases hk
    · cases hk
theorem ids_lt {h : Home} (h0 : rdevCheckM h = 0) : ∀ {j i : Nat} {d e : Dev}, i < j → h.devices[i]? = some d → h.devices[j]? = some e → d.id < e.id
  | 0, i, d, e, h1, _, _ => by omega
  | j + 1, i, d, e, h1, h2, h3 => by
    have hj := getElem_lt h3
    have hf : h.devices[j]? = some h.devices[j] := List.getElem?_eq_getElem (by omega)
    have h4 := (one_spec (dev_len h0) h3 (one_all h0 hj)).2.2.2 h.devices[j] (by omega) hf
    rcases Nat.lt_or_ge i j with h5 | h5
    · have := ids_lt h0 h5 h2 hf
      omega
    · have : i = j := by omega
      subst this
      rw [hf] at h2
      cases h2
      exact h4
theorem id_inj {h : Home} (h0 : rdevCheckM h = 0) {i j : Nat} {d e : Dev} (h2 : h.devices[i]? = some d) (h3 : h.devices[j]? = some e) (hq : d.id = e.id) : i = j ∧ d = e := by
  rcases Nat.lt_trichotomy i j with h | h | h
  · have := ids_lt h0 h h2 h3; omega
  · subst h
    rw [h2] at h3
    cases h3
    exact ⟨rfl, rfl⟩
  · have := ids_lt h0 h h3 h2; omega
end Go.Proofs.Ytmjimhkbehoomaa
