/- RolloutEnds: what the statement computes is true. Conditions: none. -/
import Derived.Test.YtjgpnceaicijcaaWB10
import Derived.Test.YtjgpnceaicijcaaWQf
namespace Go.Proofs.Ytjgpnceaicijcaa
open Go Go.Av Go.Hh Go.Proofs
theorem complete_ends (u : Update) (f : Firmware) : completeM u f = true ↔ u.status = 4 ∨ (u.status = 0 ∧ u.version = f.version) := by
  unfold completeM
  simp
/-- The numbers of the devices grow. -/
theorem ids_grow {h : Home} (hc : devCheckM h = 0) : h.devices.length ≤ 20 ∧ ∀ (i j : Nat) (d e : Dev), h.devices[i]? = some d → h.devices[j]? = some e → i < j → d.id < e.id := by
  rw [dev_eq] at hc
  unfold rdevCheckM at hc
  simp only [cond_eq_ite] at hc
  split at hc
  · rename_i h1
    simp [hc] at h1
  split at hc
  · omega
  rename_i hl
  simp only [decide_eq_true_eq] at hl
  have hnone : rdevCheckM_L1 h = none := by
    cases hs : rdevCheckM_L1 h with
    | none => rfl
    | some r =>
      rw [hs] at hc
      obtain ⟨k, _, _, hk, _⟩ := scanN_get hs
      unfold rdevCheckM_B1 at hk
      simp only [cond_eq_ite] at hk
      split at hk
      · rename_i hne
        simp only [Option.some.injEq] at hk
        simp only [Option.getD_some] at hc
        rw [hk, hc] at hne
        simp at hne
      · cases hk
  have step : ∀ (k : Nat) (d e : Dev), h.devices[k]? = some d → h.devices[k + 1]? = some e → d.id < e.id := by
    intro k d e hd he
    have := scan_at hnone (getElem_lt he)
    unfold rdevCheckM_B1 oneDevM at this
    have hkl := getElem_lt he
    have hw : (IntKind.i64.wrap (((k + 1 : Nat) : Int) - 1)).toNat = k := by rw [wrap64_of _ (by omega) (by omega)]; omega
    have hk0 : decide (((k + 1 : Nat) : Int) > 0) = true := decide_eq_true (by omega)
    rw [he] at this
    simp only [hw, hd, hk0, cond_true] at this
    cases hA : ((decide (e.id < 1) || (decide (e.id > 250) || (decide (e.vendor < 0) || (decide (e.vendor > 255) || (!e.sleepy && (e.poll != 0)))))) || (e.sleepy && (decide (e.poll < 4) || decide (e.poll > 3600)))) with
    | true => rw [hA] at this; cases this
    | false =>
      rw [hA] at this
      cases hO : decide (d.id ≥ e.id) with
      | true => rw [hO] at this; cases this
      | false => have := of_decide_eq_false hO; omega
  refine ⟨by omega, fun i j d e hd he hij => ?_⟩
  have key : ∀ (m : Nat) (e : Dev), h.devices[i + 1 + m]? = some e → d.id < e.id := by
    intro m
    induction m with
    | zero => intro e he; exact step i d e hd he
    | succ m ih =>
      intro e he
      have hlt : i + 1 + m < h.devices.length := by have := getElem_lt he; omega
      have := ih _ (List.getElem?_eq_getElem hlt)
      have := step (i + 1 + m) _ e (List.getElem?_eq_getElem hlt) he
      omega
  exact key (j - i - 1) e (by rw [show i + 1 + (j - i - 1) = j by omega]; exact he)
/-- The updates of a plan: each of a device, and no two of the same. -/
structure Plan (h : Home) (F : List Update) : Prop where
  of : ∀ u ∈ F, ∃ d ∈ h.devices, d.id = u.dev
  one : ∀ (i j : Nat) (u w : Update), F[i]? = some u → F[j]? = some w → u.dev = w.dev → i = j
theorem new_plan {h : Home} (f : Firmware) (v : List Pair) (hc : devCheckM h = 0) : Plan h (newM_L1 h f v []) := by
  obtain ⟨_, hg⟩ := ids_grow hc
  have key := iterN_invK (b := newM_B1 h f v) (n := h.devices.length) (fun k (a : List Update) => (∀ u ∈ a, ∃ (j : Nat) (d : Dev), j < k ∧ h.devices[j]? = some d ∧ d.id = u.dev) ∧ ∀ (i j : Nat) (u w : Update), a[i]? = some u → a[j]? = some w → u.dev = w.dev → i = j)
    (fun k a hk hI => ?_) h.devices.length 0 [] (by omega) ⟨by simp, by simp⟩
  · refine ⟨fun u hu => ?_, key.2⟩
    obtain ⟨j, d, _, hd, he⟩ := key.1 u hu
    exact ⟨d, List.mem_of_getElem? hd, he⟩
  · obtain ⟨i1, i2⟩ := hI
    have weak : ∀ u ∈ a, ∃ (j : Nat) (d : Dev), j < k + 1 ∧ h.devices[j]? = some d ∧ d.id = u.dev := fun u hu => by
      obtain ⟨j, d, q1, q2, q3⟩ := i1 u hu
      exact ⟨j, d, by omega, q2, q3⟩
    have hd : h.devices[k]? = some h.devices[k] := List.getElem?_eq_getElem hk
    generalize h.devices[k] = d at hd
    unfold newM_B1
    dsimp only
    rw [hd]
    dsimp only
    rw [cond_eq_ite]
    split
    · have fresh : ∀ u ∈ a, u.dev ≠ d.id := fun u hu he => by
        obtain ⟨j, e, q1, q2, q3⟩ := i1 u hu
        have := hg j k e d q2 hd q1
        omega
      refine ⟨fun u hu => ?_, fun i j u w hu hw he => ?_⟩
      · rcases List.mem_append.1 hu with hu | hu
        · exact weak u hu
        · rw [List.mem_singleton.1 hu]
          exact ⟨k, d, by omega, hd, rfl⟩
      · rw [List.getElem?_append] at hu hw
        by_cases h1 : i < a.length <;> by_cases h2 : j < a.length
        · rw [if_pos h1] at hu
          rw [if_pos h2] at hw
          exact i2 i j u w hu hw he
        · rw [if_pos h1] at hu
          rw [if_neg h2] at hw
          have hj : j - a.length = 0 := by have := getElem_lt hw; simp at this; omega
          rw [hj] at hw
          simp only [List.getElem?_cons_zero, Option.some.injEq] at hw
          subst hw
          exact absurd he (fresh u (List.mem_of_getElem? hu))
        · rw [if_neg h1] at hu
          rw [if_pos h2] at hw
          have hi : i - a.length = 0 := by have := getElem_lt hu; simp at this; omega
          rw [hi] at hu
          simp only [List.getElem?_cons_zero, Option.some.injEq] at hu
          subst hu
          exact absurd he.symm (fresh w (List.mem_of_getElem? hw))
        · rw [if_neg h1] at hu
          rw [if_neg h2] at hw
          have := getElem_lt hu
          have := getElem_lt hw
          simp at *
          omega
    · exact ⟨weak, i2⟩
theorem all_true (h : Home) (f : Firmware) (v : List Pair) (now : Int) : bContM (flags f (lEndsM_L1 h f v now (List.replicate f.sums.length false))) false = false := by
  have hv : ∀ j, j < f.sums.length → (lEndsM_L1 h f v now (List.replicate f.sums.length false))[j]? = some true := by
    have key := iterN_invK (b := lEndsM_B1 h f v now) (n := (List.replicate f.sums.length false).length) (fun k (a : List Bool) => a.length = f.sums.length ∧ ∀ j, j < k → a[j]? = some true)
      (fun k a hk hI => ?_) (List.replicate f.sums.length false).length 0 (List.replicate f.sums.length false) (by omega) ⟨by simp, fun j hj => by omega⟩
    · intro j hj
      exact key.2 j (by simpa using hj)
    · obtain ⟨i1, i2⟩ := hI
      simp only [List.length_replicate] at hk
      unfold lEndsM_B1
      dsimp only
      refine ⟨by simpa using i1, fun j hj => ?_⟩
      rw [List.getElem?_set]
      by_cases hkj : k = j
      · rw [if_pos hkj, if_pos (by omega)]
      · rw [if_neg hkj]
        exact i2 j (by omega)
  cases hb : bContM (flags f (lEndsM_L1 h f v now (List.replicate f.sums.length false))) false with
  | false => rfl
  | true =>
    rw [bCont_iff] at hb
    obtain ⟨j, hj, he⟩ := List.mem_iff_getElem.1 hb
    have h1 := List.getElem?_eq_getElem hj
    rw [he] at h1
    unfold flags at h1
    rw [flags_at] at h1
    split at h1
    · rename_i hjn
      have := hv j hjn
      simp only [List.getD_eq_getElem?_getD, this, Option.getD_some, Option.some.injEq] at h1
      cases h1
    · cases h1
/-- Between the rounds: nothing is under way, and the first waves are complete. -/
structure Calm (f : Firmware) (F l : List Update) (r : Int) : Prop where
  len : l.length = F.length
  el : ∀ (i : Nat) (u x : Update), l[i]? = some u → F[i]? = some x → u.dev = x.dev ∧ (u.status = 0 ∨ (u.status = 4 ∧ u.version = f.version))
  wav : ∀ (i : Nat) (u : Update), l[i]? = some u → ofM i < r → completeM u f = true
/-- Within a round, when the devices before the k-th have been asked. -/
structure Busy (h : Home) (f : Firmware) (F s l : List Update) (k : Nat) : Prop where
  len : l.length = F.length
  el : ∀ (i : Nat) (u x : Update), l[i]? = some u → F[i]? = some x → u.dev = x.dev
  at_ : ∀ (i : Nat) (u y : Update), l[i]? = some u → s[i]? = some y → (u = y ∧ (y.status = 1 → ∀ (j : Nat) (d : Dev), j < k → h.devices[j]? = some d → d.id ≠ y.dev)) ∨ (y.status = 1 ∧ u.status = 4 ∧ u.version = f.version)
theorem rfind_congr {a b : List Update} (n : Int) (hl : a.length = b.length) (h : ∀ (i : Nat) (u w : Update), a[i]? = some u → b[i]? = some w → u.dev = w.dev) : rfindM a n = rfindM b n := by
  unfold rfindM rfindM_L1
  rw [hl]
  congr 1
  refine scan_eq fun j hj => ?_
  unfold rfindM_B1
  have h1 : a[j]? = some a[j] := List.getElem?_eq_getElem (by omega)
  have h2 : b[j]? = some b[j] := List.getElem?_eq_getElem hj
  rw [h1, h2]
  simp only [h j _ _ h1 h2]
theorem limit_in {n : Int} (h0 : 0 ≤ n) (h1 : n ≤ 1099511627776) : limitM n = n := by
  unfold limitM
  repeat' split
  all_goals omega
/-- One device in a round. -/
theorem Busy.next {h : Home} {f : Firmware} {F s a : List Update} {k : Nat} (v : List Pair) (now t : Int) (hp : Plan h F) (hf : rfwCheckM f = 0) (ht0 : 0 ≤ t) (ht : t ≤ 1000000000000) (hs : ∀ (i : Nat) (y : Update), s[i]? = some y → y.status = 0 ∨ y.status = 1 ∨ y.status = 4)
    (hsl : s.length = F.length) (hb : Busy h f F s a k) {d : Dev} (hd : h.devices[k]? = some d) : Busy h f F s (lEndsM_B3 h f v now t k a) (k + 1) := by
  have hB : lEndsM_B3 h f v now t k a = confirmM (installM (haveM a f d.id (lEndsM_L1 h f v now (List.replicate f.sums.length false))) f d.id (t + 1)) d.id true (t + 601) := by
    unfold lEndsM_B3
    dsimp only
    rw [hd]
    dsimp only
    rw [wrap64_of (t + 1) (by omega) (by omega), wrap64_of (t + 601) (by omega) (by omega)]
  rw [hB]
  have hall := all_true h f v now
  generalize lEndsM_L1 h f v now (List.replicate f.sums.length false) = al at hall
  have len1 := haveM_len a f d.id al
  have len2 := installM_len (haveM a f d.id al) f d.id (t + 1)
  have len3 := confirmM_len (installM (haveM a f d.id al) f d.id (t + 1)) d.id true (t + 601)
  have dev1 : ∀ (i : Nat) (u w : Update), a[i]? = some u → (haveM a f d.id al)[i]? = some w → u.dev = w.dev := by
    intro i u w hu hw
    obtain ⟨w', q1, q2⟩ := have_at a f d.id al i u hu
    rw [hw] at q1
    cases q1
    rcases q2 with ⟨_, _, _, rfl⟩ | ⟨_, rfl⟩ <;> rfl
  have dev2 : ∀ (i : Nat) (u w : Update), (haveM a f d.id al)[i]? = some u → (installM (haveM a f d.id al) f d.id (t + 1))[i]? = some w → u.dev = w.dev := by
    intro i u w hu hw
    obtain ⟨w', q1, q2⟩ := install_at _ f d.id (t + 1) i u hu
    rw [hw] at q1
    cases q1
    rcases q2 with ⟨_, _, _, rfl⟩ | ⟨_, rfl⟩ <;> rfl
  have f1 : rfindM (haveM a f d.id al) d.id = rfindM a d.id := (rfind_congr d.id len1.symm dev1).symm
  have f2 : rfindM (installM (haveM a f d.id al) f d.id (t + 1)) d.id = rfindM a d.id := ((rfind_congr d.id len2.symm dev2).symm).trans f1
  -- what becomes of one update
  have one : ∀ (i : Nat) (u : Update), a[i]? = some u → (u.status = 0 ∨ u.status = 1 ∨ u.status = 4) → ∃ w, (confirmM (installM (haveM a f d.id al) f d.id (t + 1)) d.id true (t + 601))[i]? = some w ∧
      ((rfindM a d.id = (i : Int) ∧ u.status = 1 ∧ u.dev = d.id ∧ w.dev = u.dev ∧ w.status = 4 ∧ w.version = f.version) ∨ (¬ (rfindM a d.id = (i : Int) ∧ u.status = 1) ∧ w = u)) := by
    intro i u hu hst
    obtain ⟨u1, p1, p2⟩ := have_at a f d.id al i u hu
    obtain ⟨u2, q1, q2⟩ := install_at (haveM a f d.id al) f d.id (t + 1) i u1 p1
    obtain ⟨u3, r1, r2⟩ := confirm_at (installM (haveM a f d.id al) f d.id (t + 1)) d.id true (t + 601) i u2 q1
    refine ⟨u3, r1, ?_⟩
    unfold Hit at p2 q2 r2
    rw [f1] at q2
    rw [f2] at r2
    rcases p2 with ⟨_, ⟨h1, h2⟩, h3, rfl⟩ | ⟨hn, rfl⟩
    · have s1 : (haveF f al u).status = 2 := by unfold haveF; rw [hall]; rfl
      rcases q2 with ⟨_, _, _, rfl⟩ | ⟨hn, _⟩
      · have s2 : (installF f (t + 1) (haveF f al u)).status = 3 := rfl
        rcases r2 with ⟨_, _, rfl⟩ | ⟨hn, _⟩
        · refine .inl ⟨h1, h2, h3, ?_⟩
          have hlim : decide (IntKind.i64.wrap (limitM (t + 601) - limitM (installF f (t + 1) (haveF f al u)).since) ≥ 600) = true := by
            refine decide_eq_true ?_
            show IntKind.i64.wrap (limitM (t + 601) - limitM (limitM (t + 1))) ≥ 600
            rw [limit_in (n := t + 601) (by omega) (by omega), limit_in (n := t + 1) (by omega) (by omega), limit_in (n := t + 1) (by omega) (by omega), wrap64_of _ (by omega) (by omega)]
            omega
          unfold confirmF
          rw [hlim]
          exact ⟨rfl, rfl, rfl⟩
        · exact absurd ⟨h1, s2⟩ hn
      · exact absurd ⟨hf, h1, s1⟩ hn
    · have hn1 : ¬ (rfindM a d.id = (i : Int) ∧ u1.status = 1) := fun hh => hn ⟨hf, hh⟩
      rcases q2 with ⟨_, ⟨_, h2⟩, _⟩ | ⟨_, rfl⟩
      · omega
      · rcases r2 with ⟨⟨_, h2⟩, _⟩ | ⟨_, rfl⟩
        · omega
        · exact .inr ⟨hn1, rfl⟩
  have allSt : ∀ (i : Nat) (u : Update), a[i]? = some u → (u.status = 0 ∨ u.status = 1 ∨ u.status = 4) := by
    intro i u hu
    have hil : i < s.length := by rw [hsl, ← hb.len]; exact getElem_lt hu
    rcases hb.at_ i u _ hu (List.getElem?_eq_getElem hil) with ⟨h1, _⟩ | ⟨_, h2, _⟩
    · rw [h1]; exact hs i _ (List.getElem?_eq_getElem hil)
    · omega
  have back : ∀ (i : Nat) (w : Update), (confirmM (installM (haveM a f d.id al) f d.id (t + 1)) d.id true (t + 601))[i]? = some w → ∃ u, a[i]? = some u ∧
      ((rfindM a d.id = (i : Int) ∧ u.status = 1 ∧ u.dev = d.id ∧ w.dev = u.dev ∧ w.status = 4 ∧ w.version = f.version) ∨ (¬ (rfindM a d.id = (i : Int) ∧ u.status = 1) ∧ w = u)) := by
    intro i w hw
    have hil : i < a.length := by have := getElem_lt hw; omega
    have hu := List.getElem?_eq_getElem hil
    obtain ⟨w', h1, h2⟩ := one i _ hu (allSt i _ hu)
    rw [hw] at h1
    cases h1
    exact ⟨_, hu, h2⟩
  refine ⟨by rw [len3, len2, len1]; exact hb.len, fun i w x hw hx => ?_, fun i w y hw hy => ?_⟩
  · obtain ⟨u, hu, h1⟩ := back i w hw
    have := hb.el i u x hu hx
    rcases h1 with ⟨_, _, _, h4, _⟩ | ⟨_, rfl⟩ <;> omega
  · obtain ⟨u, hu, h1⟩ := back i w hw
    have hxl : i < F.length := by rw [← hb.len]; exact getElem_lt hu
    have hx := List.getElem?_eq_getElem hxl
    have hux := hb.el i u _ hu hx
    rcases hb.at_ i u y hu hy with ⟨rfl, h2⟩ | ⟨h2, h3, h4⟩
    · rcases h1 with ⟨_, h5, _, _, h8, h9⟩ | ⟨h5, rfl⟩
      · exact .inr ⟨h5, h8, h9⟩
      · refine .inl ⟨rfl, fun hst j e hj he => ?_⟩
        rcases Nat.lt_or_ge j k with hjk | hjk
        · exact h2 hst j e hjk he
        · have : j = k := by omega
          subst this
          rw [hd] at he
          cases he
          intro hde
          refine h5 ⟨?_, hst⟩
          rcases rfind_cases a d.id with ⟨_, hno⟩ | ⟨q, e, hq, hqe, hqd, _⟩
          · exact absurd hde.symm (hno i w hu)
          · have hql : q < F.length := by rw [← hb.len]; exact getElem_lt hqe
            have := hp.one q i _ _ (List.getElem?_eq_getElem hql) hx (by rw [← hb.el q e _ hqe (List.getElem?_eq_getElem hql), ← hux]; omega)
            rw [hq, this]
    · rcases h1 with ⟨_, h5, _⟩ | ⟨_, rfl⟩
      · omega
      · exact .inr ⟨h2, h3, h4⟩
theorem calm_stopped {f : Firmware} {F l : List Update} {r : Int} (hc : Calm f F l r) : stoppedM l = false := by
  rw [stopped_eq]
  unfold rstoppedM rstoppedM_L1
  rw [scan_none fun j hj => ?_]
  · rfl
  · unfold rstoppedM_B1
    have hx : j < F.length := by rw [← hc.len]; exact hj
    rw [List.getElem?_eq_getElem hj]
    have := (hc.el j _ _ (List.getElem?_eq_getElem hj) (List.getElem?_eq_getElem hx)).2
    have h5 : ((l[j]).status == 5) = false := by
      cases hb : ((l[j]).status == 5) with
      | false => rfl
      | true => simp at hb; omega
    simp only [h5, cond_false]
theorem wave_of_first {l : List Update} {f : Firmware} (hl : l.length ≤ 1000000) (hf : rfwCheckM f = 0) {i : Nat} {y : Update} (hy : l[i]? = some y) (hc : completeM y f = false) : ∃ (q : Nat) (e : Update), q ≤ i ∧ l[q]? = some e ∧ completeM e f = false ∧ waveOfM l f = ofM (q : Int) := by
  unfold waveOfM
  have : (fwCheckM f != 0) = false := by rw [fw_eq, hf]; rfl
  rw [this]
  simp only [cond_false]
  cases hs : waveOfM_L1 l f with
  | none =>
    have := scan_at hs (getElem_lt hy)
    unfold waveOfM_B1 at this
    rw [hy] at this
    simp [hc] at this
  | some r =>
    obtain ⟨q, _, hq, h1, h2⟩ := scanN_get hs
    have hqi : q ≤ i := by
      rcases Nat.lt_or_ge i q with h | h
      · have := h2 i (Nat.zero_le _) h
        unfold waveOfM_B1 at this
        rw [hy] at this
        simp [hc] at this
      · exact h
    unfold waveOfM_B1 at h1
    cases hlq : l[q]? with
    | none => rw [hlq] at h1; cases h1
    | some e =>
      rw [hlq] at h1
      simp only [cond_eq_ite] at h1
      split at h1
      · rename_i hne
        simp only [Option.some.injEq] at h1
        have := getElem_lt hy
        exact ⟨q, e, hqi, hlq, by simpa using hne, by rw [Option.getD_some, ← h1, wave_of _ (by omega)]⟩
      · cases h1
/-- A round: one more wave is complete. -/
theorem Calm.round {h : Home} {f : Firmware} {F l : List Update} {r : Int} (v : List Pair) (now t : Int) (hp : Plan h F) (hf : rfwCheckM f = 0) (hF : F.length ≤ 1000000) (ht0 : 0 ≤ t) (ht : t ≤ 1000000000000) (hc : Calm f F l r) : Calm f F (lEndsM_L3 h f v now t (startM l f t)) (r + 1) := by
  have hll : l.length ≤ 1000000 := by rw [hc.len]; exact hF
  have hst0 := calm_stopped hc
  have sAt : ∀ (i : Nat) (y : Update), (startM l f t)[i]? = some y → ∃ y0, l[i]? = some y0 ∧ y.dev = y0.dev ∧ (y = y0 ∨ y.status = 1) ∧ (0 ≤ waveOfM l f → waveM (i : Int) = waveOfM l f → y0.status = 0 → completeM y0 f = false → y.status = 1) := by
    intro i y hy
    rw [start_at] at hy
    split at hy
    · rename_i hh
      refine ⟨y, hy, rfl, .inl rfl, fun h1 _ _ _ => ?_⟩
      rw [hst0] at hh
      simp only [Bool.false_or, decide_eq_true_eq] at hh
      omega
    · cases hl : l[i]? with
      | none => rw [hl] at hy; cases hy
      | some y0 =>
        rw [hl] at hy
        simp only [Option.map_some, Option.some.injEq] at hy
        subst hy
        unfold startF
        rw [cond_eq_ite]
        refine ⟨y0, rfl, ?_, ?_, fun _ h2 h3 h4 => ?_⟩
        · split <;> rfl
        · split
          · exact .inr rfl
          · exact .inl rfl
        · rw [if_pos (by simp [h2, h3, h4])]
  have sLen : (startM l f t).length = F.length := (startM_len l f t).trans hc.len
  have sSt : ∀ (i : Nat) (y : Update), (startM l f t)[i]? = some y → y.status = 0 ∨ y.status = 1 ∨ y.status = 4 := by
    intro i y hy
    obtain ⟨y0, h1, _, h2, _⟩ := sAt i y hy
    have hxl : i < F.length := by rw [← hc.len]; exact getElem_lt h1
    have := (hc.el i y0 _ h1 (List.getElem?_eq_getElem hxl)).2
    rcases h2 with rfl | h2 <;> omega
  have busy : Busy h f F (startM l f t) (lEndsM_L3 h f v now t (startM l f t)) h.devices.length := by
    unfold lEndsM_L3
    refine iterN_invK (b := lEndsM_B3 h f v now t) (n := h.devices.length) (fun k a => Busy h f F (startM l f t) a k) (fun k a hk hb => ?_) h.devices.length 0 (startM l f t) (by omega) ⟨sLen, fun i u x hu hx => ?_, fun i u y hu hy => ?_⟩
    · exact hb.next v now t hp hf ht0 ht sSt sLen (List.getElem?_eq_getElem hk)
    · obtain ⟨y0, h1, h2, _⟩ := sAt i u hu
      rw [h2]
      exact (hc.el i y0 x h1 hx).1
    · rw [hu] at hy
      cases hy
      exact .inl ⟨rfl, fun _ j d hj => by omega⟩
  generalize lEndsM_L3 h f v now t (startM l f t) = L at busy
  have fin : ∀ (i : Nat) (u : Update), L[i]? = some u → ∃ y, (startM l f t)[i]? = some y ∧ ((u = y ∧ y.status ≠ 1) ∨ (y.status = 1 ∧ u.status = 4 ∧ u.version = f.version)) := by
    intro i u hu
    have hyl : i < (startM l f t).length := by rw [sLen, ← busy.len]; exact getElem_lt hu
    have hy := List.getElem?_eq_getElem hyl
    refine ⟨_, hy, ?_⟩
    rcases busy.at_ i u _ hu hy with ⟨h1, h2⟩ | h1
    · refine .inl ⟨h1, fun hs => ?_⟩
      have hxl : i < F.length := by rw [← sLen]; exact hyl
      have hx := List.getElem?_eq_getElem hxl
      obtain ⟨d, hd, hde⟩ := hp.of _ (List.mem_of_getElem? hx)
      obtain ⟨j, hj, hjd⟩ := List.mem_iff_getElem.1 hd
      have hdev := busy.el i u _ hu hx
      have := h2 hs j d hj (by rw [List.getElem?_eq_getElem hj, hjd])
      rw [← h1] at this
      omega
    · exact .inr h1
  refine ⟨busy.len, fun i u x hu hx => ⟨busy.el i u x hu hx, ?_⟩, fun i u hu hi => ?_⟩
  · obtain ⟨y, hy, h1⟩ := fin i u hu
    rcases h1 with ⟨rfl, h1⟩ | ⟨_, h1, h2⟩
    · obtain ⟨y0, g1, _, g2, _⟩ := sAt i u hy
      rcases g2 with rfl | g2
      · exact (hc.el i u x g1 hx).2
      · exact absurd g2 h1
    · exact .inr ⟨h1, h2⟩
  · obtain ⟨y, hy, h1⟩ := fin i u hu
    rcases h1 with ⟨rfl, h1⟩ | ⟨_, h1, h2⟩
    · obtain ⟨y0, g1, _, g2, g3⟩ := sAt i u hy
      rcases g2 with rfl | g2
      · cases hcm : completeM u f with
        | true => rfl
        | false =>
          exfalso
          obtain ⟨q, e, q1, q2, q3, q4⟩ := wave_of_first hll hf g1 hcm
          have hil := getElem_lt g1
          have m1 := of_mono (n := (q : Int)) (m := (i : Int)) (by omega) (by omega)
          have m2 : r ≤ ofM (q : Int) := by
            rcases Int.lt_or_le (ofM (q : Int)) r with hh | hh
            · have := hc.wav q e q2 hh
              rw [q3] at this
              cases this
            · exact hh
          have hb := of_bound (q : Int) (by omega)
          have hxl : i < F.length := by rw [← hc.len]; exact hil
          have hs0 := (hc.el i u _ g1 (List.getElem?_eq_getElem hxl)).2
          have hs0 : u.status = 0 := by
            rcases hs0 with h | h
            · exact h
            · have := (complete_ends u f).2 (.inl h.1)
              rw [hcm] at this
              cases this
          exact h1 (g3 (by omega) (by rw [wave_of _ (by omega), q4]; omega) hs0 hcm)
      · exact absurd g2 h1
    · exact (complete_ends u f).2 (.inl h1)
theorem loopV_inv {A : Type} {b : A → Step Unit A} (I J : A → Prop) (hn : ∀ a a', I a → b a = .nxt a' → I a') (hb : ∀ a a', I a → b a = .brk a' → J a') (hr : ∀ a, b a ≠ .ret ()) : ∀ (n : Nat) (a : A), endsW b n a → I a → ∃ q, loopW b n a = .inr q ∧ J q
  | 0, _, he, _ => by cases he
  | n + 1, a, he, ha => by
    unfold endsW at he
    unfold loopW
    cases h : b a with
    | ret r => exact absurd h (hr a)
    | brk a' => exact ⟨a', rfl, hb a a' ha h⟩
    | nxt a' => rw [h] at he; exact loopV_inv I J hn hb hr n a' he (hn a a' ha h)
theorem lEndsM_true (h : Home) (f : Firmware) (v : List Pair) (now : Int) : lEndsM h f v now = true := by
  unfold lEndsM
  cases h1 : ((!(homeM h) || (decide (((f.sums.length : Nat) : Int) > 80) || (decide (((v.length : Nat) : Int) > 40) || decide (now < 0)))) || decide (now > 1073741824)) with
  | true => rfl
  | false =>
    cases h2 : (((newM h f v).2 != 0) || (((((newM h f v).1).length : Nat) : Int) == 0)) with
    | true => rfl
    | false =>
      simp only [Bool.false_or]
      have hdev : h.devices.length ≤ 1000000 := home_dev (or_fl (or_fl h1))
      have hnow0 : ¬ now < 0 := of_decide_eq_false (or_fr (or_fr (or_fr (or_fl h1))))
      have hnow1 : ¬ now > 1073741824 := of_decide_eq_false (or_fr h1)
      have hok := or_fl h2
      have hne := or_fr h2
      have hlen := newM_len h f v
      have hnew : devCheckM h = 0 ∧ fwCheckM f = 0 ∧ (newM h f v).1 = newM_L1 h f v [] := by
        unfold newM at hok ⊢
        simp only [cond_eq_ite] at hok ⊢
        split at hok
        · rename_i hh; simp only at hok; rw [hh] at hok; cases hok
        · rename_i hd
          rw [if_neg hd]
          split at hok
          · rename_i hh; simp only at hok; rw [hh] at hok; cases hok
          · rename_i hf
            rw [if_neg hf]
            exact ⟨by simpa using hd, by simpa using hf, rfl⟩
      obtain ⟨hd0, hf0, hF⟩ := hnew
      have hp : Plan h (newM h f v).1 := by rw [hF]; exact new_plan f v hd0
      have hfr : rfwCheckM f = 0 := by rw [← fw_eq]; exact hf0
      have hn1 : 1 ≤ ((newM h f v).1).length := by
        rcases Nat.eq_zero_or_pos ((newM h f v).1).length with hz | hz
        · rw [hz] at hne; cases hne
        · exact hz
      have hpos : ((((newM h f v).1).length : Int)) - 1 < 4611686018427387904 := by omega
      have hob := of_bound ((((newM h f v).1).length : Int) - 1) hpos
      have calm0 : Calm f (newM h f v).1 (newM h f v).1 0 := by
        refine ⟨rfl, fun i u x hu hx => ?_, fun i u hu hi => ?_⟩
        · rw [hu] at hx
          cases hx
          exact ⟨rfl, .inl (newM_haves h f v u (List.mem_of_getElem? hu)).2.1⟩
        · have := (of_bound (i : Int) (by have := getElem_lt hu; omega)).1
          omega
      have key : ∃ q, loopW (lEndsM_B2 h f v now) 100 (now, (newM h f v).1, 0) = .inr q ∧ Calm f (newM h f v).1 q.2.1 (ofM ((((newM h f v).1).length : Int) - 1) + 1) := by
        refine loopV_inv (b := lEndsM_B2 h f v now) (fun a => Calm f (newM h f v).1 a.2.1 a.2.2 ∧ 0 ≤ a.2.2 ∧ a.2.2 ≤ 63 ∧ a.1 = now + 700 * a.2.2) (fun a => Calm f (newM h f v).1 a.2.1 (ofM ((((newM h f v).1).length : Int) - 1) + 1))
          (fun a a' ha hb => ?_) (fun a a' ha hb => ?_) (fun a => ?_) 100 (now, (newM h f v).1, 0) (lEndsM_ends h f v now 99 _ _ _ (by omega) (by omega) (by omega) (by omega)) ⟨calm0, by simp, by simp, by simp⟩
        · obtain ⟨t, l, w⟩ := a
          obtain ⟨i1, i2, i3, i4⟩ := ha
          simp only at i1 i2 i3 i4
          have hll : l.length ≤ 1000000 := by rw [i1.len]; omega
          unfold lEndsM_B2 at hb
          dsimp only at hb
          rw [wrap64_of (((l.length : Nat) : Int) - 1) (by omega) (by omega), wrap64_of (w + 1) (by omega) (by omega), wrap64_of (t + 700) (by omega) (by omega), cond_eq_ite] at hb
          split at hb
          · rename_i hw
            have hw := of_decide_eq_true hw
            rw [i1.len] at hw
            simp only [Step.nxt.injEq] at hb
            subst hb
            exact ⟨i1.round v now t hp hfr (by omega) (by omega) (by omega), by show 0 ≤ w + 1; omega, by show w + 1 ≤ 63; omega, by show t + 700 = now + 700 * (w + 1); omega⟩
          · cases hb
        · obtain ⟨t, l, w⟩ := a
          obtain ⟨i1, i2, i3, i4⟩ := ha
          simp only at i1 i2 i3 i4
          have hll : l.length ≤ 1000000 := by rw [i1.len]; omega
          unfold lEndsM_B2 at hb
          dsimp only at hb
          rw [wrap64_of (((l.length : Nat) : Int) - 1) (by omega) (by omega), cond_eq_ite] at hb
          split at hb
          · cases hb
          · rename_i hw
            simp only [decide_eq_true_eq] at hw
            rw [i1.len] at hw
            simp only [Step.brk.injEq] at hb
            subst hb
            exact ⟨i1.len, i1.el, fun i u hu hi => i1.wav i u hu (by omega)⟩
        · obtain ⟨t, l, w⟩ := a
          unfold lEndsM_B2
          dsimp only
          rw [cond_eq_ite]
          split <;> simp
      obtain ⟨q, hq, hJ⟩ := key
      have hL : lEndsM_L2 h f v now (now, (newM h f v).1, 0) = q := (loopV_of hq).symm
      unfold lEndsM_L4 lEndsM_B4
      rw [hL]
      generalize q.2.1 = L at hJ
      have hLc : ∀ (i : Nat) (u : Update), L[i]? = some u → completeM u f = true := by
        intro i u hu
        have hil := getElem_lt hu
        rw [hJ.len] at hil
        refine hJ.wav i u hu ?_
        have := of_mono (n := (i : Int)) (m := (((newM h f v).1).length : Int) - 1) (by omega) hpos
        omega
      have hel : ∀ (i : Nat) (u : Update), L[i]? = some u → u.status = 0 ∨ (u.status = 4 ∧ u.version = f.version) := by
        intro i u hu
        have hil := getElem_lt hu
        rw [hJ.len] at hil
        exact (hJ.el i u _ hu (List.getElem?_eq_getElem hil)).2
      have e1 : decide (((((newM h f v).1).length : Nat) : Int) > ((h.devices.length : Nat) : Int)) = false := decide_eq_false (by omega)
      have e2 : waveOfM L f = -1 := by
        unfold waveOfM
        have : (fwCheckM f != 0) = false := by rw [hf0]; rfl
        rw [this]
        simp only [cond_false]
        unfold waveOfM_L1
        rw [scan_none fun j hj => ?_]
        · rfl
        · unfold waveOfM_B1
          rw [List.getElem?_eq_getElem hj]
          simp [hLc j _ (List.getElem?_eq_getElem hj)]
      have e3 := calm_stopped hJ
      have e4 : sendM L f = [] := by
        unfold sendM
        have : (fwCheckM f != 0) = false := by rw [hf0]; rfl
        rw [this]
        simp only [cond_false]
        unfold sendM_L1
        refine iterN_inv (fun (a : List Pair) => a = []) (fun k a ha => ?_) _ _ _ rfl
        subst ha
        unfold sendM_B1
        dsimp only
        cases hk : L[k]? with
        | none => rfl
        | some u =>
          have := hel k u hk
          have h5 : (u.status != 1) = true := by
            cases hb : (u.status != 1) with
            | true => rfl
            | false => simp at hb; omega
          simp only [h5, cond_true]
      rw [e1, e2, e3, e4]
      simp only [bne_self_eq_false, Bool.or_false, List.length_nil, Int.natCast_zero, cond_false]
      rw [scan_none fun j hj => ?_]
      · rfl
      · rw [List.getElem?_eq_getElem hj]
        have hc := (complete_ends _ f).1 (hLc j _ (List.getElem?_eq_getElem hj))
        have hs := hel j _ (List.getElem?_eq_getElem hj)
        have hv : (L[j]).version = f.version := by
          rcases hc with hc | hc
          · rcases hs with hs | hs
            · omega
            · exact hs.2
          · exact hc.2
        simp [hv]
end Go.Proofs.Ytjgpnceaicijcaa
