/- Rollout: the program's small functions and the reference's compute the same. Conditions: none. -/
import Derived.Test.YtjgpnceaicijcaaPQb
import Derived.Test.YtjgpnceaicijcaaPB4
import Derived.Test.YtjgpnceaicijcaaPB5
namespace Go.Proofs.Ytjgpnceaicijcaa
open Go Go.Av Go.Hh Go.Proofs
theorem iterN_congrK {A : Type} {b c : Nat → A → A} : ∀ (m k : Nat) (a : A), (∀ j a, k ≤ j → j < k + m → b j a = c j a) → iterN b k m a = iterN c k m a
  | 0, _, _, _ => rfl
  | m + 1, k, a, h => by
    rw [iterN, iterN, h k a (Nat.le_refl _) (by omega)]
    exact iterN_congrK m (k + 1) _ fun j a h1 h2 => h j a (by omega) (by omega)
theorem limit_tick (n : Int) : limitM n = tickM n := by
  unfold limitM tickM
  simp only [cond_eq_ite, decide_eq_true_eq]
  repeat' split
  all_goals omega
theorem fw_eq (f : Firmware) : fwCheckM f = rfwCheckM f := by
  have h1 : (!(namedM f.vendor f.version)) = ((decide (f.vendor < 0) || (decide (f.vendor > 255) || decide (f.version < 1))) || decide (f.version > 65535)) := by
    unfold namedM
    rw [Bool.eq_iff_iff]
    simp only [Bool.not_eq_true', Bool.and_eq_false_iff, Bool.or_eq_true, decide_eq_true_eq, decide_eq_false_iff_not]
    omega
  have h2 : fwCheckM_L1 f = rfwCheckM_L1 f := scan_eq fun j _ => by
    unfold fwCheckM_B1 rfwCheckM_B1
    cases f.sums[j]? with
    | none => rfl
    | some e =>
      simp only
      cases decide (e < 0) <;> cases decide (e > 4294967295) <;> rfl
  unfold fwCheckM rfwCheckM
  rw [h1, h2]
theorem version_eq (l : List Pair) (n : Int) : versionM l n = rversionM l n := by
  unfold versionM rversionM
  congr 1
  refine scan_eq fun j _ => ?_
  unfold versionM_B1 rversionM_B1
  cases l[j]? with
  | none => rfl
  | some e =>
    simp only [cond_eq_ite, bne, Bool.not_eq_true', decide_eq_true_eq]
    cases h : (e.a0 == n) with
    | false => simp
    | true =>
      simp only [if_true]
      repeat' split
      all_goals first | rfl | omega | simp_all | (exfalso; omega)
theorem loopW_nxt {R A : Type} {b : A → Step R A} {a a' : A} (n : Nat) (h : b a = .nxt a') : loopW b (n + 1) a = loopW b n a' := by
  simp [loopW, h]
theorem loopW_end {R A : Type} {b : A → Step R A} {a a' : A} (n : Nat) (h : b a = .brk a') : loopW b (n + 1) a = .inr a' := by
  simp [loopW, h]
theorem waves_eq (n : Int) (hn : n < 4611686018427387904) : ∀ (j : Nat) (w f : Int), (f + 1) * 2 ^ j = 4611686018427387904 → 0 ≤ f → ∃ p q, loopW (waveM_B1 n) (j + 1) (w, f) = .inr p ∧ loopW (ofM_B1 n) (j + 1) (w, f + 1, 2 * f + 1) = .inr q ∧ p.1 = q.1
  | 0, w, f, h, h0 => by
    have hf : f + 1 = 4611686018427387904 := by simpa using h
    have e1 : IntKind.i64.wrap (2 * f) = 2 * f := wrap64_of _ (by omega) (by omega)
    have e2 : IntKind.i64.wrap (2 * f + 1) = 2 * f + 1 := wrap64_of _ (by omega) (by omega)
    have e3 : decide (n ≥ 2 * f + 1) = false := decide_eq_false (by omega)
    exact ⟨(w, f), (w, f + 1, 2 * f + 1), loopW_end _ (by simp only [waveM_B1, e1, e2, e3, cond_false]), loopW_end _ (by simp only [ofM_B1, e3, cond_false]), rfl⟩
  | j + 1, w, f, h, h0 => by
    have h2 : (2 * f + 1 + 1) * 2 ^ j = 4611686018427387904 := by rw [← h, Int.pow_succ]; rw [show 2 * f + 1 + 1 = (f + 1) * 2 by omega, Int.mul_assoc, Int.mul_comm 2 (2 ^ j)]
    have hp : (0 : Int) < 2 ^ j := Int.pow_pos (by omega)
    have hb : (2 * f + 1 + 1) * 1 ≤ (2 * f + 1 + 1) * 2 ^ j := Int.mul_le_mul_of_nonneg_left (by omega) (by omega)
    have e1 : IntKind.i64.wrap (2 * f) = 2 * f := wrap64_of _ (by omega) (by omega)
    have e2 : IntKind.i64.wrap (2 * f + 1) = 2 * f + 1 := wrap64_of _ (by omega) (by omega)
    have e3 : IntKind.i64.wrap ((f + 1) * 2) = 2 * f + 1 + 1 := by rw [wrap64_of _ (by omega) (by omega)]; omega
    have e4 : IntKind.i64.wrap (2 * f + 1 + (2 * f + 1 + 1)) = 2 * (2 * f + 1) + 1 := by rw [wrap64_of _ (by omega) (by omega)]; omega
    cases hd : decide (n ≥ 2 * f + 1) with
    | true =>
      obtain ⟨p, q, q1, q2, q3⟩ := waves_eq n hn j (IntKind.i64.wrap (w + 1)) (2 * f + 1) h2 (by omega)
      exact ⟨p, q, (loopW_nxt _ (by simp only [waveM_B1, e1, e2, hd, cond_true])).trans q1, (loopW_nxt _ (by simp only [ofM_B1, e3, e4, hd, cond_true])).trans q2, q3⟩
    | false => exact ⟨(w, f), (w, f + 1, 2 * f + 1), loopW_end _ (by simp only [waveM_B1, e1, e2, hd, cond_false]), loopW_end _ (by simp only [ofM_B1, hd, cond_false]), rfl⟩
theorem wave_of (n : Int) (hn : n < 4611686018427387904) : waveM n = ofM n := by
  obtain ⟨p, q, q1, q2, q3⟩ := waves_eq n hn 62 0 0 (by decide) (by omega)
  show (loopV (waveM_B1 n) 63 (0, 0)).1 = (loopV (ofM_B1 n) 63 (0, 1, 1)).1
  rw [← loopV_of q1, ← loopV_of (show loopW (ofM_B1 n) 63 (0, 1, 1) = .inr q from q2), q3]
theorem stopped_eq (l : List Update) : stoppedM l = rstoppedM l := by
  show decide ((scanN (ixStopM_B1 l) 0 l.length).getD (-1) ≥ 0) = (scanN (rstoppedM_B1 l) 0 l.length).getD false
  cases h : scanN (ixStopM_B1 l) 0 l.length with
  | none =>
    rw [scan_none fun j hj => ?_]
    · rfl
    · have := scan_at h hj
      unfold ixStopM_B1 stopped1M at this
      unfold rstoppedM_B1
      cases hl : l[j]? with
      | none => rfl
      | some e =>
        rw [hl] at this
        simp only [cond_eq_ite] at this ⊢
        split at this
        · cases this
        · rename_i h1
          simp [h1]
  | some r =>
    obtain ⟨j, _, hj, h1, hno⟩ := scanN_get h
    unfold ixStopM_B1 stopped1M at h1
    cases hl : l[j]? with
    | none => rw [hl] at h1; cases h1
    | some e =>
      rw [hl] at h1
      simp only [cond_eq_ite] at h1
      split at h1
      · rename_i hs
        cases h1
        rw [scan_first (j := j) (r := true) (by omega) (by unfold rstoppedM_B1; rw [hl]; simp [hs]) fun i hi => ?_]
        · simp
        · have := hno i (by omega) hi
          unfold ixStopM_B1 stopped1M at this
          unfold rstoppedM_B1
          cases hl : l[i]? with
          | none => rfl
          | some e =>
            rw [hl] at this
            simp only [cond_eq_ite] at this ⊢
            split at this
            · cases this
            · rename_i h1
              simp [h1]
      · cases h1
theorem waveOf_eq (l : List Update) (f : Firmware) (hl : l.length ≤ 1000000) : waveOfM l f = rwaveM l f := by
  unfold waveOfM rwaveM
  rw [fw_eq]
  congr 2
  refine scan_eq fun j hj => ?_
  unfold waveOfM_B1 rwaveM_B1
  rw [wave_of _ (by omega)]
  rfl
theorem ixFind_eq (l : List Update) (n : Int) : ixFindM l n = rfindM l n := rfl
theorem send_eq (l : List Update) (f : Firmware) : sendM l f = rsendM l f := by
  unfold sendM rsendM
  rw [fw_eq]
  rfl
theorem start_eq (l : List Update) (f : Firmware) (now : Int) (hl : l.length ≤ 1000000) : startM l f now = rstartM l f now := by
  unfold startM rstartM
  rw [stopped_eq, waveOf_eq l f hl, ownM_id, copyM_id, Bool.or_comm]
  congr 1
  unfold startM_L1 rstartM_L1
  rw [ownM_id, copyM_id]
  refine iterN_congrK _ _ _ fun j a h1 h2 => ?_
  unfold startM_B1 rstartM_B1
  rw [waveOf_eq l f hl, wave_of _ (by omega), limit_tick]
  have hc : ∀ e, completeM e f = rcompleteM e f := fun _ => rfl
  dsimp only
  cases a[j]? with
  | none => cases (ofM (j : Int) == rwaveM l f) <;> rfl
  | some e =>
    simp only [hc]
    cases (ofM (j : Int) == rwaveM l f) <;> cases (e.status == 0) <;> cases rcompleteM e f <;> rfl
theorem overdue_eq (l : List Update) (now : Int) : overdueM l now = roverdueM l now := by
  unfold overdueM roverdueM overdueM_L1 roverdueM_L1
  rw [ownM_id, copyM_id]
  refine iterN_congrK _ _ _ fun j a h1 h2 => ?_
  unfold overdueM_B1 roverdueM_B1
  dsimp only
  cases a[j]? with
  | none => rfl
  | some e =>
    simp only [limit_tick]
    cases (e.status == 3) <;> rfl
theorem new_eq (h : Home) (f : Firmware) (v : List Pair) : newM h f v = rnewM h f v := by
  have hb : newM_L1 h f v [] = rnewM_L1 h f v [] := by
    unfold newM_L1 rnewM_L1
    refine iterN_congrK _ _ _ fun j a h1 h2 => ?_
    unfold newM_B1 rnewM_B1
    simp only [version_eq]
  unfold newM rnewM
  rw [dev_eq, fw_eq, hb]
  cases hd : (rdevCheckM h != 0) with
  | true =>
    have : (rdevCheckM h == 0) = false := by simpa [bne] using hd
    simp only [this, cond_false, cond_true, hd]
  | false =>
    have : (rdevCheckM h == 0) = true := by simpa [bne] using hd
    simp only [this, cond_false, cond_true]
/-- Where the update of a device is. -/
theorem rfind_cases (l : List Update) (n : Int) : (rfindM l n = -1 ∧ ∀ (j : Nat) (e : Update), l[j]? = some e → e.dev ≠ n) ∨ ∃ (j : Nat) (e : Update), rfindM l n = (j : Int) ∧ l[j]? = some e ∧ e.dev = n ∧ ∀ (i : Nat) (d : Update), i < j → l[i]? = some d → d.dev ≠ n := by
  unfold rfindM rfindM_L1
  cases h : scanN (rfindM_B1 l n) 0 l.length with
  | none =>
    refine .inl ⟨rfl, fun j e he hn => ?_⟩
    have := scan_at h (getElem_lt he)
    unfold rfindM_B1 at this
    rw [he] at this
    simp [hn] at this
  | some r =>
    obtain ⟨j, _, hj, h1, hno⟩ := scanN_get h
    unfold rfindM_B1 at h1
    cases hl : l[j]? with
    | none => rw [hl] at h1; cases h1
    | some e =>
      rw [hl] at h1
      simp only [cond_eq_ite] at h1
      split at h1
      · rename_i hs
        cases h1
        refine .inr ⟨j, e, rfl, hl, by simpa using hs, fun i d hi hd hn => ?_⟩
        have := hno i (by omega) hi
        unfold rfindM_B1 at this
        rw [hd] at this
        simp [hn] at this
      · cases h1
/-- The update of a device that has a status. -/
theorem find_eq (l : List Update) (n s : Int) : (rfindM l n = -1 ∧ findM l n s = -1) ∨ ∃ (j : Nat) (e : Update), rfindM l n = (j : Int) ∧ l[j]? = some e ∧ findM l n s = bif (e.status != s) then -1 else (j : Int) := by
  unfold findM
  rw [ixFind_eq]
  rcases rfind_cases l n with ⟨h1, _⟩ | ⟨j, e, h1, h2, _⟩
  · refine .inl ⟨h1, ?_⟩
    rw [h1]
    rfl
  · refine .inr ⟨j, e, h1, h2, ?_⟩
    have hd : decide ((j : Int) ≥ 0) = true := decide_eq_true (by omega)
    rw [h1]
    simp only [hd, cond_true, Int.toNat_natCast, h2]
theorem install_eq (l : List Update) (f : Firmware) (dev now : Int) : installM l f dev now = rinstallM l f dev now := by
  unfold installM rinstallM
  rw [fw_eq, ownM_id, copyM_id]
  rcases find_eq l dev 2 with ⟨h1, h2⟩ | ⟨j, e, h1, h2, h3⟩
  · rw [h1, h2]
    cases (rfwCheckM f != 0) <;> rfl
  · rw [h1, h3]
    have hd : decide ((j : Int) < 0) = false := decide_eq_false (by omega)
    have hm : decide ((-1 : Int) < 0) = true := rfl
    cases (rfwCheckM f != 0) with
    | true => rfl
    | false =>
      cases hs : (e.status != 2) with
      | true => simp only [hd, hm, hs, Int.toNat_natCast, h2, cond_true, Bool.false_or, cond_false]
      | false => simp only [hd, hs, Int.toNat_natCast, h2, Bool.false_or, cond_false, limit_tick]
theorem confirm_eq (l : List Update) (dev : Int) (ok : Bool) (now : Int) : confirmM l dev ok now = rconfirmM l dev ok now := by
  unfold confirmM rconfirmM
  rw [ownM_id, copyM_id]
  rcases find_eq l dev 3 with ⟨h1, h2⟩ | ⟨j, e, h1, h2, h3⟩
  · rw [h1, h2]
    rfl
  · rw [h1, h3]
    have hd : decide ((j : Int) < 0) = false := decide_eq_false (by omega)
    have hm : decide ((-1 : Int) < 0) = true := rfl
    cases hs : (e.status != 3) with
    | true => simp only [hd, hm, hs, Int.toNat_natCast, h2, cond_true, cond_false]
    | false =>
      simp only [hd, hs, Int.toNat_natCast, h2, cond_false, limit_tick]
theorem iterN_invK {A : Type} {b : Nat → A → A} {n : Nat} (I : Nat → A → Prop) (h : ∀ k a, k < n → I k a → I (k + 1) (b k a)) : ∀ (m k : Nat) (a : A), k + m = n → I k a → I n (iterN b k m a)
  | 0, k, a, hk, ha => by
    have : k = n := by omega
    subst this
    exact ha
  | m + 1, k, a, hk, ha => iterN_invK I h m (k + 1) (b k a) (by omega) (h k a (by omega) ha)
theorem bCont_iff (l : List Bool) (x : Bool) : bContM l x = true ↔ x ∈ l := by
  show decide ((scanN (bIndexM_B1 l x) 0 l.length).getD (-1) ≥ 0) = true ↔ _
  cases h : scanN (bIndexM_B1 l x) 0 l.length with
  | none =>
    refine ⟨fun h => by simp at h, fun hx => ?_⟩
    obtain ⟨j, hj, he⟩ := List.mem_iff_getElem.1 hx
    have := scan_at h hj
    unfold bIndexM_B1 at this
    rw [List.getElem?_eq_getElem hj, he] at this
    simp at this
  | some r =>
    obtain ⟨j, _, hj, h1, _⟩ := scanN_get h
    unfold bIndexM_B1 at h1
    cases hl : l[j]? with
    | none => rw [hl] at h1; cases h1
    | some e =>
      rw [hl] at h1
      simp only [cond_eq_ite] at h1
      split at h1
      · rename_i hs
        cases h1
        refine ⟨fun _ => ?_, fun _ => decide_eq_true (by simp)⟩
        have : x = e := by simpa using hs
        subst this
        exact List.mem_of_getElem? hl
      · cases h1
/-- The flags that are kept: the first n, the others false. -/
theorem flags_at (v : List Bool) (n j : Nat) : (v.take (List.replicate n false).length ++ (List.replicate n false).drop v.length)[j]? = if j < n then some (v.getD j false) else none := by
  rw [List.length_replicate, List.drop_replicate]
  by_cases hj : j < n
  · rw [if_pos hj]
    by_cases hv : j < v.length
    · rw [List.getElem?_append_left (by rw [List.length_take]; omega), List.getElem?_take, if_pos hj, List.getElem?_eq_getElem hv]
      simp [hv]
    · rw [List.getElem?_append_right (by rw [List.length_take]; omega), List.length_take, Nat.min_eq_right (by omega), List.getElem?_replicate, if_pos (by omega)]
      simp [List.getElem?_eq_none (Nat.le_of_not_lt hv)]
  · rw [if_neg hj, List.getElem?_eq_none (by rw [List.length_append, List.length_take, List.length_replicate]; omega)]
theorem rhave_loop (l : List Update) (f : Firmware) (dev : Int) (v : List Bool) : rhaveM_L1 l f dev v (true, List.replicate f.sums.length false) =
    (!(bContM (v.take (List.replicate f.sums.length false).length ++ (List.replicate f.sums.length false).drop v.length) false), v.take (List.replicate f.sums.length false).length ++ (List.replicate f.sums.length false).drop v.length) := by
  unfold rhaveM_L1
  have key := iterN_invK (b := rhaveM_B1 l f dev v) (n := (List.replicate f.sums.length false).length) (fun k a => a.1 = decide (∀ j, j < k → v.getD j false = true) ∧ ∀ j : Nat, a.2[j]? = if j < f.sums.length then some (if j < k then v.getD j false else false) else none)
    (fun k a hk hI => ?_) (List.replicate f.sums.length false).length 0 (true, List.replicate f.sums.length false) (by omega) ⟨by simp, fun j => by simp [List.getElem?_replicate]⟩
  · revert key
    generalize iterN (rhaveM_B1 l f dev v) 0 (List.replicate f.sums.length false).length (true, List.replicate f.sums.length false) = p
    obtain ⟨p1, p2⟩ := p
    rintro ⟨k1, k2⟩
    simp only [List.length_replicate] at k1 k2
    have h2 : p2 = v.take (List.replicate f.sums.length false).length ++ (List.replicate f.sums.length false).drop v.length := by
      apply List.ext_getElem?
      intro j
      rw [k2 j, flags_at]
      by_cases h : j < f.sums.length
      · simp only [if_pos h]
      · simp only [if_neg h]
    rw [← h2]
    congr 1
    rw [k1, Bool.eq_iff_iff, Bool.not_eq_true', decide_eq_true_eq]
    constructor
    · intro h
      cases hb : bContM p2 false with
      | false => rfl
      | true =>
        rw [bCont_iff] at hb
        obtain ⟨j, hj, he⟩ := List.mem_iff_getElem.1 hb
        have := k2 j
        rw [List.getElem?_eq_getElem hj, he] at this
        split at this
        · rename_i hjn
          rw [h j hjn] at this
          cases this
        · cases this
    · intro h j hj
      cases hv : v.getD j false with
      | true => rfl
      | false =>
        have := k2 j
        rw [if_pos hj, if_pos hj, hv] at this
        have hm := (bCont_iff p2 false).2 (List.mem_of_getElem? this)
        rw [h] at hm
        cases hm
  · obtain ⟨a1, a2⟩ := a
    obtain ⟨i1, i2⟩ := hI
    simp only at i1 i2
    rw [List.length_replicate] at hk
    have hlen : a2.length = f.sums.length := by
      have h1 := i2 f.sums.length
      rw [if_neg (by omega)] at h1
      have h1 := List.getElem?_eq_none_iff.1 h1
      rcases Nat.lt_or_ge a2.length f.sums.length with h | h
      · have h3 := i2 a2.length
        rw [if_pos h, List.getElem?_eq_none (Nat.le_refl _)] at h3
        cases h3
      · omega
    have hset : ∀ (e : Bool), e = v.getD k false → ∀ j : Nat, (a2.set k e)[j]? = if j < f.sums.length then some (if j < k + 1 then v.getD j false else false) else none := by
      rintro e rfl j
      rw [List.getElem?_set]
      by_cases hkj : k = j
      · subst hkj
        rw [if_pos rfl, if_pos (by omega), if_pos hk, if_pos (by omega)]
      · rw [if_neg hkj, i2 j]
        by_cases hj : j < f.sums.length
        · rw [if_pos hj, if_pos hj]
          by_cases h : j < k
          · rw [if_pos h, if_pos (by omega)]
          · rw [if_neg h, if_neg (by omega)]
        · rw [if_neg hj, if_neg hj]
    have hall : ∀ (e : Bool), e = v.getD k false → (a1 && e) = decide (∀ j, j < k + 1 → v.getD j false = true) := by
      rintro e rfl
      rw [i1, Bool.eq_iff_iff, Bool.and_eq_true, decide_eq_true_eq, decide_eq_true_eq]
      constructor
      · rintro ⟨h1, h2⟩ j hj
        rcases Nat.lt_or_ge j k with h | h
        · exact h1 j h
        · have : j = k := by omega
          subst this
          exact h2
      · intro h
        exact ⟨fun j hj => h j (by omega), h k (by omega)⟩
    unfold rhaveM_B1
    dsimp only
    by_cases hv : k < v.length
    · have hd : decide ((k : Int) < (v.length : Int)) = true := decide_eq_true (by omega)
      have hg : v[k]? = some (v.getD k false) := by simp [hv]
      rw [hd, hg]
      simp only [cond_true]
      refine ⟨?_, ?_⟩
      · rw [← hall _ rfl]
        cases a1 <;> rfl
      · cases a1 <;> exact hset _ rfl
    · have hd : decide ((k : Int) < (v.length : Int)) = false := decide_eq_false (by omega)
      have hg : v.getD k false = false := by simp [List.getElem?_eq_none (Nat.le_of_not_lt hv)]
      rw [hd]
      simp only [cond_false]
      refine ⟨?_, hset _ hg.symm⟩
      rw [← hall false hg.symm, Bool.and_false]
theorem have_eq (l : List Update) (f : Firmware) (dev : Int) (v : List Bool) : haveM l f dev v = rhaveM l f dev v := by
  unfold haveM rhaveM
  rw [fw_eq, ownM_id, copyM_id, rhave_loop]
  generalize v.take (List.replicate f.sums.length false).length ++ (List.replicate f.sums.length false).drop v.length = w
  rcases find_eq l dev 1 with ⟨h1, h2⟩ | ⟨j, e, h1, h2, h3⟩
  · rw [h1, h2]
    cases (rfwCheckM f != 0) <;> rfl
  · rw [h1, h3]
    have hd : decide ((j : Int) < 0) = false := decide_eq_false (by omega)
    have hm : decide ((-1 : Int) < 0) = true := rfl
    cases (rfwCheckM f != 0) with
    | true => rfl
    | false =>
      cases hs : (e.status != 1) with
      | true => simp only [hd, hm, hs, Int.toNat_natCast, h2, cond_true, Bool.false_or, cond_false]
      | false => simp only [hd, hs, Int.toNat_natCast, h2, Bool.false_or, cond_false]
theorem sameFlags_refl (a : List Bool) : sameFlagsM a a = true := by
  unfold sameFlagsM sameFlagsM_L1
  rw [scan_none fun j hj => ?_]
  · simp
  · unfold sameFlagsM_B1
    rw [List.getElem?_eq_getElem hj]
    simp
theorem same_refl (a : List Update) : sameM a a = true := by
  unfold sameM sameM_L1
  rw [scan_none fun j hj => ?_]
  · simp
  · unfold sameM_B1
    rw [List.getElem?_eq_getElem hj]
    simp [sameFlags_refl]
theorem samePairs_refl (a : List Pair) : samePairsM a a = true := by
  unfold samePairsM samePairsM_L1
  rw [scan_none fun j hj => ?_]
  · simp
  · unfold samePairsM_B1
    rw [List.getElem?_eq_getElem hj]
    simp
end Go.Proofs.Ytjgpnceaicijcaa
