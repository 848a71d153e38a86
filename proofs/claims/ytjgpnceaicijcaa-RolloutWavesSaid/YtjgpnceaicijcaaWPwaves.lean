/- RolloutWaves: what the statement computes is true. Conditions: none. -/
import Derived.Test.YtjgpnceaicijcaaWB9
import Derived.Test.YtjgpnceaicijcaaWQf
namespace Go.Proofs.Ytjgpnceaicijcaa
open Go Go.Av Go.Hh Go.Proofs
/-- What an event can make of the i-th update. -/
def Tr (f : Firmware) (l : List Update) (i : Nat) (u w : Update) : Prop :=
  w.dev = u.dev ∧ (w = u ∨ (u.status = 0 ∧ w.status = 1 ∧ w.version = u.version ∧ completeM u f = false ∧ stoppedM l = false ∧ 0 ≤ waveOfM l f ∧ waveM (i : Int) = waveOfM l f) ∨
    (u.status = 1 ∧ (w.status = 1 ∨ w.status = 2) ∧ w.version = u.version) ∨ (u.status = 2 ∧ w.status = 3 ∧ w.version = f.version ∧ w.previous = u.version) ∨
    (u.status = 3 ∧ w.status = 4 ∧ w.version = u.version) ∨ (u.status = 3 ∧ w.status = 5 ∧ w.version = u.previous))
theorem step_tr (l : List Update) (f : Firmware) (o : Op51) {i : Nat} {u : Update} (hu : l[i]? = some u) : ∃ w, (stepM l f o)[i]? = some w ∧ Tr f l i u w := by
  unfold stepM
  simp only [cond_eq_ite]
  split
  · rw [start_at]
    split
    · exact ⟨u, hu, rfl, .inl rfl⟩
    · rename_i hn
      simp only [Bool.or_eq_true, decide_eq_true_eq, not_or, Bool.not_eq_true] at hn
      refine ⟨_, by rw [hu]; rfl, ?_⟩
      unfold startF
      rw [cond_eq_ite]
      split
      · rename_i hc
        simp only [Bool.and_eq_true, beq_iff_eq, Bool.not_eq_true'] at hc
        exact ⟨rfl, .inr (.inl ⟨hc.1.2, rfl, rfl, hc.2, hn.1, by omega, hc.1.1⟩)⟩
      · exact ⟨rfl, .inl rfl⟩
  split
  · obtain ⟨w, h1, h2⟩ := have_at l f o.dev o.have_ i u hu
    refine ⟨w, h1, ?_⟩
    rcases h2 with ⟨_, h3, _, rfl⟩ | ⟨_, rfl⟩
    · refine ⟨rfl, .inr (.inr (.inl ⟨h3.2, ?_, rfl⟩))⟩
      unfold haveF
      cases (!(bContM (flags f o.have_) false)) with
      | true => exact .inr rfl
      | false => exact .inl h3.2
    · exact ⟨rfl, .inl rfl⟩
  split
  · obtain ⟨w, h1, h2⟩ := install_at l f o.dev o.now i u hu
    refine ⟨w, h1, ?_⟩
    rcases h2 with ⟨_, h3, _, rfl⟩ | ⟨_, rfl⟩
    · exact ⟨rfl, .inr (.inr (.inr (.inl ⟨h3.2, rfl, rfl, rfl⟩)))⟩
    · exact ⟨rfl, .inl rfl⟩
  split
  · obtain ⟨w, h1, h2⟩ := confirm_at l o.dev o.ok o.now i u hu
    refine ⟨w, h1, ?_⟩
    rcases h2 with ⟨h3, _, rfl⟩ | ⟨_, rfl⟩
    · unfold confirmF
      simp only [cond_eq_ite]
      split
      · exact ⟨rfl, .inr (.inr (.inr (.inr (.inr ⟨h3.2, rfl, rfl⟩))))⟩
      split
      · exact ⟨rfl, .inr (.inr (.inr (.inr (.inl ⟨h3.2, rfl, rfl⟩))))⟩
      · exact ⟨rfl, .inl rfl⟩
    · exact ⟨rfl, .inl rfl⟩
  split
  · refine ⟨_, by rw [overdue_at, hu]; rfl, ?_⟩
    unfold overdueF
    rw [cond_eq_ite]
    split
    · rename_i hc
      simp only [Bool.and_eq_true, beq_iff_eq] at hc
      exact ⟨rfl, .inr (.inr (.inr (.inr (.inr ⟨hc.1, rfl, rfl⟩))))⟩
    · exact ⟨rfl, .inl rfl⟩
  · exact ⟨u, hu, rfl, .inl rfl⟩
/-- What holds at all times. -/
structure WInv (f : Firmware) (F l : List Update) : Prop where
  len : l.length = F.length
  el : ∀ (i : Nat) (u x : Update), l[i]? = some u → F[i]? = some x → u.dev = x.dev ∧ 0 ≤ u.status ∧ u.status ≤ 5 ∧ (u.status = 3 ∨ u.status = 4 → u.version = f.version) ∧ (¬ (u.status = 3 ∨ u.status = 4) → u.version = x.version) ∧ (u.status = 3 → u.previous = x.version)
  wav : ∀ (i j : Nat) (u w : Update), l[i]? = some u → u.status ≠ 0 → l[j]? = some w → ofM j < ofM i → completeM w f = true
theorem complete_iff (u : Update) (f : Firmware) : completeM u f = true ↔ u.status = 4 ∨ (u.status = 0 ∧ u.version = f.version) := by
  unfold completeM
  simp
theorem wave_first {l : List Update} {f : Firmware} (hl : l.length ≤ 1000000) (h : 0 ≤ waveOfM l f) {j : Nat} {w : Update} (hj : l[j]? = some w) (hc : completeM w f = false) : waveOfM l f ≤ ofM (j : Int) := by
  unfold waveOfM at h ⊢
  simp only [cond_eq_ite] at h ⊢
  split at h
  · omega
  · rename_i hf
    rw [if_neg hf]
    cases hs : waveOfM_L1 l f with
    | none => rw [hs] at h; simp at h
    | some r =>
      obtain ⟨i, _, hi, h1, h2⟩ := scanN_get hs
      simp only [Option.getD_some]
      have hij : i ≤ j := by
        rcases Nat.lt_or_ge j i with h | h
        · have := h2 j (Nat.zero_le _) h
          unfold waveOfM_B1 at this
          rw [hj] at this
          simp [hc] at this
        · exact h
      unfold waveOfM_B1 at h1
      cases hli : l[i]? with
      | none => rw [hli] at h1; cases h1
      | some e =>
        rw [hli] at h1
        simp only [cond_eq_ite] at h1
        split at h1
        · simp only [Option.some.injEq] at h1
          have hjl := getElem_lt hj
          rw [← h1, wave_of _ (by omega)]
          exact of_mono (by omega) (by omega)
        · cases h1
theorem Tr.still {f : Firmware} {l : List Update} {i : Nat} {u w : Update} (h : Tr f l i u w) (hc : completeM u f = true) : w = u := by
  obtain ⟨_, h⟩ := h
  have h0 := hc
  rw [complete_iff] at hc
  rcases h with h | h | h | h | h | h
  · exact h
  · rw [h.2.2.2.1] at h0; cases h0
  · omega
  · omega
  · omega
  · omega
theorem WInv.step {f : Firmware} {F l : List Update} (hl : l.length ≤ 1000000) (h : WInv f F l) (o : Op51) : WInv f F (stepM l f o) := by
  have back : ∀ (i : Nat) (w : Update), (stepM l f o)[i]? = some w → ∃ u, l[i]? = some u ∧ Tr f l i u w := by
    intro i w hw
    have hi := getElem_lt hw
    rw [stepM_len] at hi
    obtain ⟨w', h1, h2⟩ := step_tr l f o (List.getElem?_eq_getElem hi)
    rw [hw] at h1
    cases h1
    exact ⟨_, List.getElem?_eq_getElem hi, h2⟩
  refine ⟨(stepM_len l f o).trans h.len, fun i w x hw hx => ?_, fun i j w' v hw hs hv hij => ?_⟩
  · obtain ⟨u, hu, hd, ht⟩ := back i w hw
    obtain ⟨e1, e2, e3, e4, e5, e6⟩ := h.el i u x hu hx
    rcases ht with rfl | ⟨t1, t2, t3, _⟩ | ⟨t1, t2, t3⟩ | ⟨t1, t2, t3, t4⟩ | ⟨t1, t2, t3⟩ | ⟨t1, t2, t3⟩
    · exact ⟨e1, e2, e3, e4, e5, e6⟩
    · have := e5 (by omega)
      exact ⟨by omega, by omega, by omega, fun h => by omega, fun _ => by omega, fun h => by omega⟩
    · have := e5 (by omega)
      exact ⟨by omega, by omega, by omega, fun h => by omega, fun _ => by omega, fun h => by omega⟩
    · have := e5 (by omega)
      exact ⟨by omega, by omega, by omega, fun h => by omega, fun h => by omega, fun h => by omega⟩
    · have := e4 (by omega)
      exact ⟨by omega, by omega, by omega, fun h => by omega, fun h => by omega, fun h => by omega⟩
    · have := e6 (by omega)
      exact ⟨by omega, by omega, by omega, fun h => by omega, fun h => by omega, fun h => by omega⟩
  · obtain ⟨u, hu, _, ht⟩ := back i w' hw
    obtain ⟨v0, hv0, hvt⟩ := back j v hv
    have hc : completeM v0 f = true := by
      by_cases h0 : u.status = 0
      · rcases ht with rfl | ⟨t1, t2, t3, t4, t5, t6, t7⟩ | ⟨t1, _⟩ | ⟨t1, _⟩ | ⟨t1, _⟩ | ⟨t1, _⟩
        · exact absurd h0 hs
        · cases hc : completeM v0 f with
          | true => rfl
          | false =>
            have h1 := wave_first hl t6 hv0 hc
            have hil := getElem_lt hu
            rw [← t7, wave_of _ (by omega)] at h1
            omega
        · omega
        · omega
        · omega
        · omega
      · exact h.wav i j u v0 hu h0 hv0 hij
    rw [hvt.still hc]
    exact hc
theorem loopS_true {A : Type} {b : Nat → A → Step Bool A} (I : A → Prop) (h : ∀ k a, I a → b k a = .ret true ∨ ∃ a', b k a = .nxt a' ∧ I a') : ∀ (m k : Nat) (a : A), I a → loopS b k m a = .inl true ∨ ∃ a', loopS b k m a = .inr a'
  | 0, _, a, _ => .inr ⟨a, rfl⟩
  | m + 1, k, a, ha => by
    rcases h k a ha with h1 | ⟨a', h1, h2⟩
    · exact .inl (by simp [loopS, h1])
    · have := loopS_true I h m (k + 1) a' h2
      simpa [loopS, h1] using this
theorem waves_round {h : Home} {f : Firmware} {v : List Pair} {os : List Op51} {l : List Update} (hl : l.length ≤ 1000000) (hI : WInv f (newM h f v).1 l) (o : Op51) : lWavesM_L2 h f v os l o = none := by
  have hI' := hI.step hl o
  unfold lWavesM_L2
  refine scan_none fun i hi => ?_
  have hw : (stepM l f o)[i]? = some (stepM l f o)[i] := List.getElem?_eq_getElem hi
  generalize (stepM l f o)[i] = w at hw
  have hil : i < l.length := by rw [stepM_len] at hi; exact hi
  have hu : l[i]? = some l[i] := List.getElem?_eq_getElem hil
  generalize l[i] = u at hu
  have hxl : i < ((newM h f v).1).length := by rw [← hI.len]; exact hil
  have hx : ((newM h f v).1)[i]? = some ((newM h f v).1)[i] := List.getElem?_eq_getElem hxl
  generalize ((newM h f v).1)[i] = x at hx
  obtain ⟨e1, e2, e3, e4, e5, e6⟩ := hI'.el i w x hw hx
  have hL3 : w.status ≠ 0 → lWavesM_L3 h f v os l i o = none := by
    intro hs
    unfold lWavesM_L3
    refine scan_none fun j hj => ?_
    unfold lWavesM_B3
    rw [cond_eq_ite]
    split
    · rename_i hij
      have hij := of_decide_eq_true hij
      rw [List.length_take] at hj
      have hjl : j < (stepM l f o).length := by omega
      rw [List.getElem?_eq_getElem hjl]
      have := hI'.wav i j w _ hw hs (List.getElem?_eq_getElem hjl) hij
      have hr : rcompleteM (stepM l f o)[j] f = true := this
      simp [hr]
    · rfl
  have hver : (w.version != (bif ((w.status == 3) || (w.status == 4)) then f.version else x.version)) = false := by
    by_cases h34 : w.status = 3 ∨ w.status = 4
    · have : ((w.status == 3) || (w.status == 4)) = true := by simpa using h34
      rw [this, e4 h34]
      simp
    · have : ((w.status == 3) || (w.status == 4)) = false := by simpa [not_or] using h34
      rw [this, e5 h34]
      simp
  have hlo : decide (w.status < 0) = false := decide_eq_false (by omega)
  have hhi : decide (w.status > 5) = false := decide_eq_false (by omega)
  have hstop : w.status ≠ 0 → u.status = 0 → stoppedM l = false := by
    intro h1 h2
    obtain ⟨w', q1, _, q2⟩ := step_tr l f o hu
    rw [hw] at q1
    cases q1
    rcases q2 with rfl | ⟨_, _, _, _, t5, _⟩ | ⟨t1, _⟩ | ⟨t1, _⟩ | ⟨t1, _⟩ | ⟨t1, _⟩
    · exact absurd h2 h1
    · exact t5
    · omega
    · omega
    · omega
    · omega
  unfold lWavesM_B2
  rw [hw, hx, hu]
  simp only [e1, bne_self_eq_false, cond_false, hver, hlo, hhi, Bool.or_false]
  by_cases hs : w.status = 0
  · simp [hs]
  · have h1 : (w.status != 0) = true := by simpa using hs
    have h2 : (w.status == 0) = false := by simpa using hs
    simp only [h1, h2, cond_true, cond_false, hL3 hs]
    by_cases hu0 : u.status = 0
    · simp [hu0, hstop hs hu0]
    · have h3 : (u.status == 0) = false := by simpa using hu0
      simp only [h3, cond_false]
theorem lWavesM_true (h : Home) (f : Firmware) (v : List Pair) (os : List Op51) : lWavesM h f v os = true := by
  unfold lWavesM
  cases h1 : ((!(homeM h) || (decide (((f.sums.length : Nat) : Int) > 80) || decide (((v.length : Nat) : Int) > 40))) || decide (((os.length : Nat) : Int) > 200)) with
  | true => rfl
  | false =>
    simp only [cond_false]
    have hdev : h.devices.length ≤ 1000000 := home_dev (or_fl (or_fl h1))
    cases h2 : ((newM h f v).2 != 0) with
    | true =>
      simp only [cond_true]
      unfold newM at h2 ⊢
      simp only [cond_eq_ite] at h2 ⊢
      split
      · rfl
      · rename_i hd
        rw [if_neg hd] at h2
        split
        · rfl
        · rename_i hf
          rw [if_neg hf] at h2
          cases h2
    | false =>
      simp only [cond_false]
      have key := loopS_true (b := lWavesM_B1 h f v os) (WInv f (newM h f v).1) (fun k a ha => ?_) os.length 0 (newM h f v).1 ⟨rfl, fun i u x hu hx => ?_, fun i j u w hu hs _ _ => ?_⟩
      · unfold lWavesM_L1
        rcases key with hk | ⟨a', hk⟩ <;> rw [hk]
      · have hal : a.length ≤ 1000000 := by rw [ha.len]; exact Nat.le_trans (newM_len h f v) hdev
        unfold lWavesM_B1
        dsimp only
        cases os[k]? with
        | none => exact .inr ⟨a, rfl, ha⟩
        | some o =>
          dsimp only
          cases decide (((o.have_.length : Nat) : Int) > 100) with
          | true => exact .inl rfl
          | false =>
            have hlen : ((((stepM a f o).length : Nat) : Int) != ((((newM h f v).1).length : Nat) : Int)) = false := by rw [stepM_len, ha.len]; simp
            rw [hlen, waves_round hal ha o]
            exact .inr ⟨_, rfl, ha.step hal o⟩
      · rw [hu] at hx
        cases hx
        obtain ⟨_, hs, hp⟩ := newM_haves h f v u (List.mem_of_getElem? hu)
        exact ⟨rfl, by omega, by omega, fun h => by omega, fun _ => rfl, fun h => by omega⟩
      · obtain ⟨_, hs', _⟩ := newM_haves h f v u (List.mem_of_getElem? hu)
        exact absurd hs' hs
end Go.Proofs.Ytjgpnceaicijcaa
