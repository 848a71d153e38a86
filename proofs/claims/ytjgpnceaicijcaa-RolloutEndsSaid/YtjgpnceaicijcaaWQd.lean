/- Rollout: lists of updates stay small. Conditions: none. -/
import Derived.Test.YtjgpnceaicijcaaWB4
import Derived.Test.YtjgpnceaicijcaaWB5
namespace Go.Proofs.Ytjgpnceaicijcaa
open Go Go.Av Go.Hh Go.Proofs
/-- Lists that can be cloned. -/
structure Good (l : List Update) : Prop where
  len : l.length ≤ 1000000
  fit : ∀ u ∈ l, u.have_.length ≤ 1000000
theorem Good.set {l : List Update} (h : Good l) {k : Nat} {e : Update} (he : e.have_.length ≤ 1000000) : Good (l.set k e) := by
  refine ⟨by rw [List.length_set]; exact h.len, fun u hu => ?_⟩
  rcases List.mem_or_eq_of_mem_set hu with hu | rfl
  · exact h.fit u hu
  · exact he
theorem Good.at {l : List Update} (h : Good l) {k : Nat} {e : Update} (he : l[k]? = some e) : e.have_.length ≤ 1000000 := h.fit e (List.mem_of_getElem? he)
theorem Good.upd {l : List Update} (h : Good l) {k j : Nat} {e : Update} {d s v p n : Int} (he : l[j]? = some e) : Good (l.set k ⟨d, s, v, p, n, e.have_⟩) := by
  refine h.set ?_
  exact Good.at (e := e) h he
theorem Good.upd2 {l : List Update} (h : Good l) {k i j : Nat} {e : Update} {d s v p n d' s' v' p' n' : Int} (he : l[j]? = some e) : Good ((l.set k ⟨d, s, v, p, n, e.have_⟩).set i ⟨d', s', v', p', n', e.have_⟩) := by
  refine Good.set (Good.set h ?_) ?_ <;> exact Good.at (e := e) h he
theorem Good.nil : Good [] := ⟨by simp, by simp⟩
theorem startM_len (l : List Update) (f : Firmware) (now : Int) : (startM l f now).length = l.length := by
  unfold startM startM_L1
  rw [ownM_id, cond_eq_ite]
  split
  · rfl
  · refine iterN_inv (fun (a : List Update) => a.length = l.length) (fun k a ha => ?_) _ _ _ rfl
    unfold startM_B1
    simp only [cond_eq_ite]
    repeat' split
    all_goals simpa using ha
theorem startM_good {l : List Update} {f : Firmware} {now : Int} (h : Good l) : Good (startM l f now) := by
  unfold startM startM_L1
  rw [ownM_id, cond_eq_ite]
  split
  · exact h
  · refine iterN_inv Good (fun k a ha => ?_) _ _ _ h
    unfold startM_B1
    simp only [cond_eq_ite]
    repeat' split
    all_goals first | exact ha | exact ha.upd2 (by assumption)
theorem overdueM_len (l : List Update) (now : Int) : (overdueM l now).length = l.length := by
  unfold overdueM overdueM_L1
  rw [ownM_id]
  refine iterN_inv (fun (a : List Update) => a.length = l.length) (fun k a ha => ?_) _ _ _ rfl
  unfold overdueM_B1
  simp only [cond_eq_ite]
  repeat' split
  all_goals simpa using ha
theorem overdueM_good {l : List Update} {now : Int} (h : Good l) : Good (overdueM l now) := by
  unfold overdueM overdueM_L1
  rw [ownM_id]
  refine iterN_inv Good (fun k a ha => ?_) _ _ _ h
  unfold overdueM_B1
  simp only [cond_eq_ite]
  repeat' split
  all_goals first | exact ha | exact ha.upd2 (by assumption)
theorem at_find (l : List Update) (n s : Int) (h : ¬ findM l n s < 0) : l[(findM l n s).toNat]? ≠ none := by
  have := findM_lt l n s
  rw [List.getElem?_eq_getElem (by omega)]
  simp
theorem haveM_len (l : List Update) (f : Firmware) (dev : Int) (v : List Bool) : (haveM l f dev v).length = l.length := by
  unfold haveM
  rw [ownM_id]
  simp only [cond_eq_ite]
  split
  · rfl
  · rename_i h1
    simp only [Bool.or_eq_true, decide_eq_true_eq, not_or] at h1
    repeat' split
    all_goals first | (exact absurd (by assumption) (at_find l dev 1 h1.2)) | simp
theorem haveM_good {l : List Update} {f : Firmware} {dev : Int} {v : List Bool} (hs : f.sums.length ≤ 1000000) (h : Good l) : Good (haveM l f dev v) := by
  have hw : (v.take (List.replicate f.sums.length false).length ++ (List.replicate f.sums.length false).drop v.length).length ≤ 1000000 := by
    rw [List.length_append, List.length_take, List.length_drop, List.length_replicate]
    omega
  unfold haveM
  rw [ownM_id]
  simp only [cond_eq_ite]
  split
  · exact h
  · rename_i h1
    simp only [Bool.or_eq_true, decide_eq_true_eq, not_or] at h1
    repeat' split
    all_goals first | (exact absurd (by assumption) (at_find l dev 1 h1.2)) | exact (h.set hw).set hw | exact h.set hw
theorem installM_len (l : List Update) (f : Firmware) (dev now : Int) : (installM l f dev now).length = l.length := by
  unfold installM
  rw [ownM_id]
  simp only [cond_eq_ite]
  split
  · rfl
  · rename_i h1
    simp only [Bool.or_eq_true, decide_eq_true_eq, not_or] at h1
    repeat' split
    all_goals first | (exact absurd (by assumption) (at_find l dev 2 h1.2)) | simp
theorem installM_good {l : List Update} {f : Firmware} {dev now : Int} (h : Good l) : Good (installM l f dev now) := by
  unfold installM
  rw [ownM_id]
  simp only [cond_eq_ite]
  split
  · exact h
  · rename_i h1
    simp only [Bool.or_eq_true, decide_eq_true_eq, not_or] at h1
    split
    · rename_i e he
      refine Good.set (Good.set (Good.set (Good.set h ?_) ?_) ?_) ?_ <;> exact Good.at (e := e) h he
    · exact absurd (by assumption) (at_find l dev 2 h1.2)
theorem confirmM_len (l : List Update) (dev : Int) (ok : Bool) (now : Int) : (confirmM l dev ok now).length = l.length := by
  unfold confirmM
  rw [ownM_id]
  simp only [cond_eq_ite]
  split
  · rfl
  · rename_i h1
    simp only [decide_eq_true_eq] at h1
    repeat' split
    all_goals first | (exact absurd (by assumption) (at_find l dev 3 h1)) | simp
theorem confirmM_good {l : List Update} {dev : Int} {ok : Bool} {now : Int} (h : Good l) : Good (confirmM l dev ok now) := by
  unfold confirmM
  rw [ownM_id]
  simp only [cond_eq_ite]
  split
  · exact h
  · rename_i h1
    simp only [decide_eq_true_eq] at h1
    repeat' split
    all_goals first | (exact absurd (by assumption) (at_find l dev 3 h1)) | exact h | exact h.upd2 (by assumption) | exact h.upd (by assumption)
theorem newM_len (h : Home) (f : Firmware) (v : List Pair) : ((newM h f v).1).length ≤ h.devices.length := by
  have key : ∀ (m k : Nat) (a : List Update), a.length ≤ k → (iterN (newM_B1 h f v) k m a).length ≤ k + m := by
    intro m
    induction m with
    | zero => intro k a ha; exact ha
    | succ m ih =>
      intro k a ha
      rw [iterN, show k + (m + 1) = (k + 1) + m by omega]
      refine ih (k + 1) _ ?_
      unfold newM_B1
      simp only [cond_eq_ite]
      repeat' split
      all_goals first | omega | (simp only [List.length_append, List.length_cons, List.length_nil]; omega)
  unfold newM newM_L1
  simp only [cond_eq_ite]
  repeat' split
  · simp
  · simp
  · simpa using key h.devices.length 0 [] (by simp)
theorem newM_haves (h : Home) (f : Firmware) (v : List Pair) : ∀ u ∈ (newM h f v).1, u.have_ = List.replicate f.sums.length false ∧ u.status = 0 ∧ u.previous = u.version := by
  have key : ∀ u ∈ newM_L1 h f v [], u.have_ = List.replicate f.sums.length false ∧ u.status = 0 ∧ u.previous = u.version := by
    unfold newM_L1
    refine iterN_inv (fun (a : List Update) => ∀ u ∈ a, u.have_ = List.replicate f.sums.length false ∧ u.status = 0 ∧ u.previous = u.version) (fun k a ha => ?_) _ _ _ (by simp)
    unfold newM_B1
    simp only [cond_eq_ite]
    repeat' split
    · intro u hu
      rcases List.mem_append.1 hu with hu | hu
      · exact ha u hu
      · rw [List.mem_singleton.1 hu]
        exact ⟨rfl, rfl, rfl⟩
    · exact ha
    · exact ha
  unfold newM
  simp only [cond_eq_ite]
  repeat' split
  · simp
  · simp
  · exact key
theorem newM_good {h : Home} {f : Firmware} {v : List Pair} (hd : h.devices.length ≤ 1000000) (hs : f.sums.length ≤ 1000000) : Good (newM h f v).1 :=
  ⟨Nat.le_trans (newM_len h f v) hd, fun u hu => by rw [(newM_haves h f v u hu).1, List.length_replicate]; exact hs⟩
end Go.Proofs.Ytjgpnceaicijcaa
