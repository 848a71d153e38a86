/- Rollout: what an event makes of each update. Conditions: none. -/
import Derived.Test.YtjgpnceaicijcaaWQc
import Derived.Test.YtjgpnceaicijcaaWQd
import Derived.Test.YtjgpnceaicijcaaWQe
namespace Go.Proofs.Ytjgpnceaicijcaa
open Go Go.Av Go.Hh Go.Proofs
theorem iterN_upd {α : Type} {b : Nat → List α → List α} (F : Nat → α → α) (hb : ∀ k a, b k a = match a[k]? with | some e => a.set k (F k e) | none => a) : ∀ (m k : Nat) (a : List α) (i : Nat), (iterN b k m a)[i]? = if k ≤ i ∧ i < k + m then (a[i]?).map (F i) else a[i]?
  | 0, k, a, i => by rw [iterN, if_neg (by omega)]
  | m + 1, k, a, i => by
    rw [iterN, iterN_upd F hb m (k + 1), hb]
    have hset : ∀ j : Nat, (match a[k]? with | some e => a.set k (F k e) | none => a)[j]? = if j = k then (a[k]?).map (F k) else a[j]? := by
      intro j
      cases hk : a[k]? with
      | none =>
        simp only [Option.map_none]
        split
        · rename_i h; rw [h, hk]
        · rfl
      | some e =>
        simp only [Option.map_some]
        rw [List.getElem?_set]
        by_cases h : k = j
        · subst h
          rw [if_pos rfl, if_pos rfl, if_pos (getElem_lt hk)]
        · rw [if_neg h, if_neg (Ne.symm h)]
    by_cases h1 : i = k
    · subst h1
      rw [if_neg (by omega), hset, if_pos rfl, if_pos (by omega)]
    · by_cases h2 : k + 1 ≤ i ∧ i < k + 1 + m
      · rw [if_pos h2, hset, if_neg h1, if_pos (by omega)]
      · rw [if_neg h2, hset, if_neg h1, if_neg (by omega)]
/-- What Start makes of the i-th update. -/
def startF (l : List Update) (f : Firmware) (now : Int) (i : Nat) (u : Update) : Update :=
  bif (((waveM ((i : Nat) : Int) == waveOfM l f) && (u.status == 0)) && !(completeM u f)) then ⟨u.dev, 1, u.version, u.previous, limitM now, u.have_⟩ else u
theorem start_at (l : List Update) (f : Firmware) (now : Int) (i : Nat) : (startM l f now)[i]? = if (stoppedM l || decide (waveOfM l f < 0)) = true then l[i]? else (l[i]?).map (startF l f now i) := by
  unfold startM startM_L1
  rw [ownM_id, cond_eq_ite]
  split
  · rfl
  · rw [iterN_upd (startF l f now) fun k a => ?_]
    · by_cases h : i < l.length
      · rw [if_pos (by omega)]
      · rw [if_neg (by omega), List.getElem?_eq_none (by omega)]
        rfl
    · unfold startM_B1 startF
      dsimp only
      cases hk : a[k]? with
      | none => rfl
      | some e =>
        dsimp only
        cases (((waveM ((k : Nat) : Int) == waveOfM l f) && (e.status == 0)) && !(completeM e f)) with
        | true => simp only [cond_true, List.set_set]
        | false => simp only [cond_false]; exact (set_same hk).symm
def overdueF (now : Int) (u : Update) : Update :=
  bif ((u.status == 3) && decide (IntKind.i64.wrap (limitM now - limitM u.since) > 1200)) then ⟨u.dev, 5, u.previous, u.previous, u.since, u.have_⟩ else u
theorem overdue_at (l : List Update) (now : Int) (i : Nat) : (overdueM l now)[i]? = (l[i]?).map (overdueF now) := by
  unfold overdueM overdueM_L1
  rw [ownM_id, iterN_upd (fun _ => overdueF now) fun k a => ?_]
  · by_cases h : i < l.length
    · rw [if_pos (by omega)]
    · rw [if_neg (by omega), List.getElem?_eq_none (by omega)]
      rfl
  · unfold overdueM_B1 overdueF
    dsimp only
    cases hk : a[k]? with
    | none => rfl
    | some e =>
      dsimp only
      cases ((e.status == 3) && decide (IntKind.i64.wrap (limitM now - limitM e.since) > 1200)) with
      | true => simp only [cond_true, List.set_set]
      | false => simp only [cond_false]; exact (set_same hk).symm
/-- The update of a device, if it has a status. -/
def Hit (l : List Update) (dev s : Int) (i : Nat) (u : Update) : Prop := rfindM l dev = (i : Int) ∧ u.status = s
theorem set_at {l : List Update} {j i : Nat} {x : Update} : (l.set j x)[i]? = if i = j then (l[i]?).map (fun _ => x) else l[i]? := by
  rw [List.getElem?_set]
  by_cases h : j = i
  · subst h
    rw [if_pos rfl, if_pos rfl]
    split
    · rename_i hl; rw [List.getElem?_eq_getElem hl]; rfl
    · rename_i hl; rw [List.getElem?_eq_none (by omega)]; rfl
  · rw [if_neg h, if_neg (Ne.symm h)]
/-- What is found: nothing, or the update with the index j. -/
theorem found (l : List Update) (dev s : Int) : (findM l dev s = -1 ∧ ∀ (i : Nat) (u : Update), l[i]? = some u → ¬ Hit l dev s i u) ∨ ∃ (j : Nat) (e : Update), findM l dev s = (j : Int) ∧ l[j]? = some e ∧ e.dev = dev ∧ Hit l dev s j e ∧ ∀ (i : Nat) (u : Update), l[i]? = some u → Hit l dev s i u → i = j := by
  unfold Hit
  rcases rfind_cases l dev with ⟨h1, _⟩ | ⟨j, e, h1, h2, h3, _⟩
  · rcases find_eq l dev s with ⟨_, h4⟩ | ⟨j, e, h4, _⟩
    · exact .inl ⟨h4, fun i u _ hu => by rw [h1] at hu; omega⟩
    · rw [h1] at h4; omega
  · rcases find_eq l dev s with ⟨h4, _⟩ | ⟨j', e', h4, h5, h6⟩
    · rw [h1] at h4; omega
    · have : j' = j := by rw [h1] at h4; omega
      subst this
      rw [h2] at h5
      cases h5
      cases hs : (e.status != s) with
      | true =>
        rw [hs] at h6
        refine .inl ⟨h6, fun i u hu hh => ?_⟩
        have : i = j' := by have := hh.1; rw [h1] at this; omega
        subst this
        rw [h2] at hu
        cases hu
        have := hh.2
        simp [this] at hs
      | false =>
        rw [hs] at h6
        exact .inr ⟨j', e, h6, h2, h3, ⟨h1, by simpa using hs⟩, fun i u hu hh => by have := hh.1; rw [h1] at this; omega⟩
def flags (f : Firmware) (v : List Bool) : List Bool := v.take (List.replicate f.sums.length false).length ++ (List.replicate f.sums.length false).drop v.length
def haveF (f : Firmware) (v : List Bool) (u : Update) : Update := ⟨u.dev, bif !(bContM (flags f v) false) then 2 else u.status, u.version, u.previous, u.since, flags f v⟩
theorem have_at (l : List Update) (f : Firmware) (dev : Int) (v : List Bool) (i : Nat) (u : Update) (hu : l[i]? = some u) : ∃ u', (haveM l f dev v)[i]? = some u' ∧ ((rfwCheckM f = 0 ∧ Hit l dev 1 i u ∧ u.dev = dev ∧ u' = haveF f v u) ∨ (¬ (rfwCheckM f = 0 ∧ Hit l dev 1 i u) ∧ u' = u)) := by
  unfold haveM
  rw [ownM_id, fw_eq]
  rcases found l dev 1 with ⟨h1, h2⟩ | ⟨j, e, h1, h2, h3, h4, h5⟩
  · rw [h1]
    have hm : ((rfwCheckM f != 0) || decide ((-1 : Int) < 0)) = true := by simp
    rw [hm]
    exact ⟨u, hu, .inr ⟨fun h => h2 i u hu h.2, rfl⟩⟩
  · rw [h1]
    have hd : decide ((j : Int) < 0) = false := decide_eq_false (by omega)
    cases hf : (rfwCheckM f != 0) with
    | true => exact ⟨u, hu, .inr ⟨fun h => by simp [h.1] at hf, rfl⟩⟩
    | false =>
      have hf0 : rfwCheckM f = 0 := by simpa using hf
      simp only [hd, Bool.or_false, cond_false, Int.toNat_natCast, h2]
      by_cases hij : i = j
      · subst hij
        rw [hu] at h2
        cases h2
        refine ⟨haveF f v u, ?_, .inl ⟨hf0, h4, h3, rfl⟩⟩
        unfold haveF flags
        cases (!(bContM (v.take (List.replicate f.sums.length false).length ++ (List.replicate f.sums.length false).drop v.length) false)) with
        | true => simp only [cond_true, List.set_set]; rw [set_at, if_pos rfl, hu]; rfl
        | false => simp only [cond_false]; rw [set_at, if_pos rfl, hu]; rfl
      · refine ⟨u, ?_, .inr ⟨fun h => hij (h5 i u hu h.2), rfl⟩⟩
        cases (!(bContM (v.take (List.replicate f.sums.length false).length ++ (List.replicate f.sums.length false).drop v.length) false)) with
        | true => simp only [cond_true, List.set_set]; rw [set_at, if_neg hij, hu]
        | false => simp only [cond_false]; rw [set_at, if_neg hij, hu]
def installF (f : Firmware) (now : Int) (u : Update) : Update := ⟨u.dev, 3, f.version, u.version, limitM now, u.have_⟩
theorem install_at (l : List Update) (f : Firmware) (dev now : Int) (i : Nat) (u : Update) (hu : l[i]? = some u) : ∃ u', (installM l f dev now)[i]? = some u' ∧ ((rfwCheckM f = 0 ∧ Hit l dev 2 i u ∧ u.dev = dev ∧ u' = installF f now u) ∨ (¬ (rfwCheckM f = 0 ∧ Hit l dev 2 i u) ∧ u' = u)) := by
  unfold installM
  rw [ownM_id, fw_eq]
  rcases found l dev 2 with ⟨h1, h2⟩ | ⟨j, e, h1, h2, h3, h4, h5⟩
  · rw [h1]
    have hm : ((rfwCheckM f != 0) || decide ((-1 : Int) < 0)) = true := by simp
    rw [hm]
    exact ⟨u, hu, .inr ⟨fun h => h2 i u hu h.2, rfl⟩⟩
  · rw [h1]
    have hd : decide ((j : Int) < 0) = false := decide_eq_false (by omega)
    cases hf : (rfwCheckM f != 0) with
    | true => exact ⟨u, hu, .inr ⟨fun h => by simp [h.1] at hf, rfl⟩⟩
    | false =>
      have hf0 : rfwCheckM f = 0 := by simpa using hf
      simp only [hd, Bool.or_false, cond_false, Int.toNat_natCast, h2, List.set_set]
      by_cases hij : i = j
      · subst hij
        rw [hu] at h2
        cases h2
        exact ⟨installF f now u, by rw [set_at, if_pos rfl, hu]; rfl, .inl ⟨hf0, h4, h3, rfl⟩⟩
      · exact ⟨u, by rw [set_at, if_neg hij, hu], .inr ⟨fun h => hij (h5 i u hu h.2), rfl⟩⟩
def confirmF (ok : Bool) (now : Int) (u : Update) : Update :=
  bif !ok then ⟨u.dev, 5, u.previous, u.previous, u.since, u.have_⟩ else bif decide (IntKind.i64.wrap (limitM now - limitM u.since) ≥ 600) then ⟨u.dev, 4, u.version, u.previous, u.since, u.have_⟩ else u
theorem confirm_at (l : List Update) (dev : Int) (ok : Bool) (now : Int) (i : Nat) (u : Update) (hu : l[i]? = some u) : ∃ u', (confirmM l dev ok now)[i]? = some u' ∧ ((Hit l dev 3 i u ∧ u.dev = dev ∧ u' = confirmF ok now u) ∨ (¬ Hit l dev 3 i u ∧ u' = u)) := by
  unfold confirmM
  rw [ownM_id]
  rcases found l dev 3 with ⟨h1, h2⟩ | ⟨j, e, h1, h2, h3, h4, h5⟩
  · rw [h1]
    exact ⟨u, hu, .inr ⟨h2 i u hu, rfl⟩⟩
  · rw [h1]
    have hd : decide ((j : Int) < 0) = false := decide_eq_false (by omega)
    simp only [hd, cond_false, Int.toNat_natCast, h2, List.set_set]
    by_cases hij : i = j
    · subst hij
      rw [hu] at h2
      cases h2
      refine ⟨confirmF ok now u, ?_, .inl ⟨h4, h3, rfl⟩⟩
      unfold confirmF
      cases ok with
      | false => simp only [Bool.not_false, cond_true]; rw [set_at, if_pos rfl, hu]; rfl
      | true =>
        simp only [Bool.not_true, cond_false]
        cases decide (IntKind.i64.wrap (limitM now - limitM u.since) ≥ 600) with
        | true => simp only [cond_true]; rw [set_at, if_pos rfl, hu]; rfl
        | false => simp only [cond_false]; exact hu
    · refine ⟨u, ?_, .inr ⟨fun h => hij (h5 i u hu h), rfl⟩⟩
      cases ok with
      | false => simp only [Bool.not_false, cond_true]; rw [set_at, if_neg hij, hu]
      | true =>
        simp only [Bool.not_true, cond_false]
        cases decide (IntKind.i64.wrap (limitM now - limitM e.since) ≥ 600) with
        | true => simp only [cond_true]; rw [set_at, if_neg hij, hu]
        | false => simp only [cond_false]; exact hu
end Go.Proofs.Ytjgpnceaicijcaa
