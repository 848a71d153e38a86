/- Chapter 21: plain laws that the contracts of commands lean on. Conditions: none. -/
import Derived.Test.YtelohjccoimnaaaDoorA7
namespace Go.Proofs.YtelohjccoimnaaaDoor
open Go Go.Av Go.Hh Go.Proofs

theorem bz {a : Int} (h : (a != 0) = false) : a = 0 := by simpa using h
theorem getD_zero {o : Option Int} {d : Int} (h : o.getD d = 0) (hn : ∀ r, o = some r → r ≠ 0) : o = none ∧ d = 0 := by
  cases o with
  | none => exact ⟨rfl, h⟩
  | some r => exact absurd h (hn r rfl)

theorem scan_ne {b : Nat → Option Int} {n : Nat} (h : ∀ k r, b k = some r → r ≠ 0) : ∀ r, scanN b 0 n = some r → r ≠ 0 := fun r hr => by
  obtain ⟨k, _, _, hk, _⟩ := scanN_get hr
  exact h k r hk
/-- What Check of the reference gives of a command. -/
theorem rcheck_one {c : Cluster} (h : rcheckM c = 0) : rvalidM c.name = true ∧ tooManyM c = false ∧ (∀ k, k < c.attrs.length → rcheckM_B1 c k = none) ∧ ∀ i, i < c.commands.length → oneM c i = 0 := by
  unfold rcheckM at h
  simp only [cond_eq_ite] at h
  split at h
  · cases h
  rename_i h1
  split at h
  · cases h
  rename_i h2
  obtain ⟨e1, h⟩ := getD_zero h (scan_ne fun k r hk => by
    unfold rcheckM_B1 at hk
    simp only [cond_eq_ite] at hk
    split at hk
    · split at hk
      · rename_i h3
        simp only [Option.some.injEq] at hk
        subst hk
        simpa using h3
      · split at hk
        · simp only [Option.some.injEq] at hk
          subst hk; decide
        · cases hk
    · cases hk)
  obtain ⟨e2, h⟩ := getD_zero h (scan_ne fun k r hk => by
    unfold rcheckM_B2 at hk
    simp only [cond_eq_ite] at hk
    split at hk
    · rename_i h3
      simp only [Option.some.injEq] at hk
      subst hk
      simpa using h3
    · cases hk)
  refine ⟨by simpa using h1, by simpa using h2, fun k hk => scanN_all.1 e1 k (Nat.zero_le _) (by omega), fun i hi => ?_⟩
  have hb := scanN_all.1 e2 i (Nat.zero_le _) (by omega)
  unfold rcheckM_B2 at hb
  simp only [cond_eq_ite] at hb
  split at hb
  · cases hb
  · rename_i h3
    simpa using h3
theorem rcheck_effect {c : Cluster} (h : rcheckM c = 0) {i : Nat} {d : Command} (hd : c.commands[i]? = some d) {j : Nat} {e : Effect} (he : d.effects[j]? = some e) : reffectM c d.param e = 0 := by
  have ho := (rcheck_one h).2.2.2 i (List.getElem?_eq_some_iff.1 hd).1
  unfold oneM at ho
  simp only [hd, cond_eq_ite] at ho
  split at ho
  · cases ho
  obtain ⟨_, ho⟩ := getD_zero ho (scan_ne fun k r hk => by
    unfold oneM_B1 at hk
    simp only [cond_eq_ite] at hk
    split at hk
    · split at hk
      · simp only [Option.some.injEq] at hk
        subst hk; decide
      · cases hk
    · cases hk)
  have hL : (oneM_L2 c i d).getD 0 = 0 := by
    split at ho
    · split at ho
      · exact ho
      · cases ho
    · split at ho
      · exact ho
      · rename_i h6
        simp [ho] at h6
  obtain ⟨e4, _⟩ := getD_zero hL (scan_ne fun k r hk => by
    unfold oneM_B2 at hk
    simp only [cond_eq_ite] at hk
    split at hk
    · split at hk
      · rename_i h5
        simp only [Option.some.injEq] at hk
        subst hk
        simpa using h5
      · cases hk
    · cases hk)
  have hjl : j < d.effects.length := (List.getElem?_eq_some_iff.1 he).1
  have hq := scanN_all.1 e4 j (Nat.zero_le _) (by omega)
  unfold oneM_B2 at hq
  simp only [he, cond_eq_ite] at hq
  split at hq
  · cases hq
  · rename_i h5
    simpa using h5
/-- A command that is found is one of the list. -/
theorem rcommand_mem {c : Cluster} {x : ByteArray} (h : (rcommandM c x).2 = true) : ∃ i : Nat, c.commands[i]? = some (rcommandM c x).1 := by
  unfold rcommandM at h ⊢
  cases hs : rcommandM_L1 c x with
  | none => rw [hs] at h; cases h
  | some r =>
    obtain ⟨k, _, hk2, hk, _⟩ := scanN_get hs
    unfold rcommandM_B1 at hk
    simp only [cond_eq_ite] at hk
    split at hk
    · rename_i e he
      split at hk
      · simp only [Option.some.injEq] at hk
        subst hk
        exact ⟨k, he⟩
      · cases hk
    · cases hk
theorem reffect_place {c : Cluster} {p : Attr} {e : Effect} (h : reffectM c p e = 0) : 0 ≤ placeM c e.attr := by
  unfold reffectM at h
  simp only [cond_eq_ite] at h
  split at h
  · cases h
  split at h
  · cases h
  rename_i h1
  unfold rattrM at h1
  simp only [cond_eq_ite] at h1
  split at h1
  · simp at h1
  · rename_i h2
    simpa using h2
theorem place_of {c : Cluster} {x : ByteArray} {j : Nat} {e : Effect} (h : (rcheckM c != 0) = false) (ho : (!((rcommandM c x).2)) = false) (he : (((rcommandM c x).1).effects)[j]? = some e) : 0 ≤ placeM c e.attr := by
  obtain ⟨i, hi⟩ := rcommand_mem (c := c) (x := x) (by simpa using ho)
  exact reffect_place (rcheck_effect (bz h) hi he)

/-- Small clusters can be cloned. -/
theorem small_spec {c : Cluster} (h : smallM c = true) : c.attrs.length ≤ 20 ∧ c.commands.length ≤ 20 ∧ c.events.length ≤ 20 ∧ (∀ a ∈ c.attrs, a.enum.length ≤ 70) ∧ ∀ d ∈ c.commands, d.effects.length ≤ 20 ∧ d.param.enum.length ≤ 70 := by
  unfold smallM at h
  simp only [cond_eq_ite] at h
  split at h
  · cases h
  rename_i h1
  have h1' : c.attrs.length ≤ 20 ∧ c.commands.length ≤ 20 ∧ c.events.length ≤ 20 := by
    simp only [Bool.or_eq_true, decide_eq_true_eq, not_or, Bool.not_eq_true] at h1
    simp at h1
    omega
  refine ⟨h1'.1, h1'.2.1, h1'.2.2, ?_⟩
  cases hs : smallM_L1 c with
  | some r =>
    rw [hs] at h
    obtain ⟨k, _, _, hk, _⟩ := scanN_get hs
    unfold smallM_B1 at hk
    simp only [cond_eq_ite] at hk
    split at hk
    · split at hk
      · simp only [Option.some.injEq] at hk
        subst hk; cases h
      · cases hk
    · cases hk
  | none =>
    rw [hs] at h
    cases hs2 : smallM_L2 c with
    | some r =>
      simp only [hs2] at h
      obtain ⟨k, _, _, hk, _⟩ := scanN_get hs2
      unfold smallM_B2 at hk
      simp only [cond_eq_ite] at hk
      split at hk
      · split at hk
        · simp only [Option.some.injEq] at hk
          subst hk; cases h
        · cases hk
      · cases hk
    | none =>
      refine ⟨fun a ha => ?_, fun d hd => ?_⟩
      · obtain ⟨k, hk, rfl⟩ := List.mem_iff_getElem.1 ha
        have := scanN_all.1 hs k (Nat.zero_le _) (by omega)
        unfold smallM_B1 at this
        rw [List.getElem?_eq_getElem hk] at this
        simp only [cond_eq_ite] at this
        split at this
        · cases this
        · rename_i h2
          simp at h2
          omega
      · obtain ⟨k, hk, rfl⟩ := List.mem_iff_getElem.1 hd
        have := scanN_all.1 hs2 k (Nat.zero_le _) (by omega)
        unfold smallM_B2 at this
        rw [List.getElem?_eq_getElem hk] at this
        simp only [cond_eq_ite] at this
        split at this
        · cases this
        · rename_i h2
          simp at h2
          omega
theorem fit_small {c : Cluster} (h : smallM c = true) : Fit c := by
  obtain ⟨_, _, _, h1, h2⟩ := small_spec h
  exact ⟨fun a ha => Nat.le_trans (h1 a ha) (by decide), fun d hd => ⟨Nat.le_trans (h2 d hd).2 (by decide), Nat.le_trans (h2 d hd).1 (by decide)⟩⟩
theorem fit_s1 {c : Cluster} (h : (!(smallM c)) = false) : Fit c := fit_small (by simpa using h)
end Go.Proofs.YtelohjccoimnaaaDoor
