/- Chapter 21: the statement ClusterRepeats computes true. Conditions: none. -/
import Derived.Test.YtelohjccoimnaaaDoorPe
import Derived.Test.YtelohjccoimnaaaDoorA11
namespace Go.Proofs.YtelohjccoimnaaaDoor
open Go Go.Av Go.Hh Go.Proofs
theorem apply_of {c : Cluster} {command : ByteArray} {param : Val} {vals : List Val} (h1 : rcheckM c = 0) (h2 : (rcommandM c command).2 = true) (h3 : acceptsM ((rcommandM c command).1) param = 0) (h4 : vals.length = c.attrs.length) (h5 : AllFit c vals) :
    applyM c command param vals = (applyM_L2 c command param vals vals, 0) := by
  unfold applyM
  rw [check_eq, command_eq, h1, h2, h3]
  have : applyM_L1 c command param vals = none := scan_none fun k hk => by
    unfold applyM_B1
    have ha : c.attrs[k]? = some c.attrs[k] := List.getElem?_eq_getElem (by omega)
    simp only [List.getElem?_eq_getElem hk, ha]
    rw [fits_eq, (fits_iff _ _).2 (h5 k _ _ ha (List.getElem?_eq_getElem hk))]
    rfl
  rw [this, h4]
  simp
/-- A fold of writes that do not look at what was there. -/
theorem fold_const {b : Nat → List Val → List Val} {n : Nat} (h : ∀ k, k < n → ∃ p w, ∀ out, b k out = out.set p w) (i : Nat) : ∀ (m k : Nat), k + m ≤ n → (∀ out, (iterN b k m out)[i]? = out[i]?) ∨ ∃ w, ∀ out, i < out.length → (iterN b k m out)[i]? = some w
  | 0, _, _ => .inl fun _ => rfl
  | m + 1, k, hk => by
    obtain ⟨p, w, hb⟩ := h k (by omega)
    have hlen : ∀ out : List Val, (b k out).length = out.length := fun out => by rw [hb]; simp
    rcases fold_const h i m (k + 1) (by omega) with h1 | ⟨u, h1⟩
    · by_cases hp : p = i
      · refine .inr ⟨w, fun out ho => ?_⟩
        show (iterN b (k + 1) m (b k out))[i]? = _
        rw [h1, hb, hp, List.getElem?_set_self ho]
      · refine .inl fun out => ?_
        show (iterN b (k + 1) m (b k out))[i]? = _
        rw [h1, hb, List.getElem?_set_ne hp]
    · refine .inr ⟨u, fun out ho => ?_⟩
      show (iterN b (k + 1) m (b k out))[i]? = _
      exact h1 _ (by rw [hlen]; exact ho)
theorem fold_len2 {b : Nat → List Val → List Val} {n : Nat} (h : ∀ k, k < n → ∃ p w, ∀ out, b k out = out.set p w) : ∀ (m k : Nat), k + m ≤ n → ∀ out, (iterN b k m out).length = out.length
  | 0, _, _, _ => rfl
  | m + 1, k, hk, out => by
    obtain ⟨p, w, hb⟩ := h k (by omega)
    show (iterN b (k + 1) m (b k out)).length = _
    rw [fold_len2 h m (k + 1) (by omega), hb]
    simp
theorem fold_twice {b : Nat → List Val → List Val} {n : Nat} (h : ∀ k, k < n → ∃ p w, ∀ out, b k out = out.set p w) (out : List Val) : iterN b 0 n (iterN b 0 n out) = iterN b 0 n out := by
  refine List.ext_getElem? fun i => ?_
  have hl := fold_len2 h n 0 (by omega)
  rcases fold_const h i n 0 (by omega) with h1 | ⟨w, h1⟩
  · rw [h1 (iterN b 0 n out)]
  · by_cases hi : i < out.length
    · rw [h1 _ (by rw [hl]; exact hi), h1 _ hi]
    · rw [List.getElem?_eq_none (by rw [hl, hl]; omega), List.getElem?_eq_none (by rw [hl]; omega)]
theorem const_step {c : Cluster} {command : ByteArray} {param : Val} {vals : List Val} (h : rcheckM c = 0) (hc : (rcommandM c command).2 = true) {k : Nat} (hk : k < ((rcommandM c command).1).effects.length)
    (hkind : ∀ x, ((rcommandM c command).1).effects[k]? = some x → x.kind = 1 ∨ x.kind = 2) : ∃ p w, ∀ out, applyM_B2 c command param vals k out = out.set p w := by
  obtain ⟨i, hi⟩ := rcommand_mem hc
  have hx := List.getElem?_eq_getElem hk
  obtain ⟨p, a, he⟩ := effect_ok (rcheck_effect h hi hx)
  have hw : ∃ w, ∀ v, afterM ((rcommandM c command).1.effects[k]) a param v = w := by
    unfold afterM
    rcases hkind _ hx with g | g
    · exact ⟨_, fun v => by simp [g]; rfl⟩
    · exact ⟨_, fun v => by simp [g]; rfl⟩
  obtain ⟨w, hw⟩ := hw
  refine ⟨p, w, fun out => ?_⟩
  unfold applyM_B2
  rw [command_eq, hx]
  simp only
  rw [inner_eq h he]
  cases ho : out[p]? with
  | none => exact (List.set_eq_of_length_le (by rw [List.getElem?_eq_none_iff] at ho; exact ho)).symm
  | some v => simp only [hw]
theorem lRepeatsM_true (c : Cluster) (command : ByteArray) (param : Val) (vals : List Val) : lRepeatsM c command param vals = true := by
  unfold lRepeatsM
  rw [Bool.or_eq_true]
  refine .inr ?_
  cases hL : lRepeatsM_L1 c command param vals with
  | some r =>
    obtain ⟨k, _, _, hk, _⟩ := scanN_get hL
    unfold lRepeatsM_B1 at hk
    simp only [cond_eq_ite] at hk
    split at hk
    · split at hk
      · cases hk; rfl
      · cases hk
    · cases hk
  | none =>
    simp only [Option.getD_none]
    rcases apply_cases c command param vals with ⟨n, hn, h1, _⟩ | ⟨h1, h2, h3, h4, h5, h6, _⟩
    · rw [h1]
      simp [hn]
    have hstep : ∀ k, k < ((rcommandM c command).1).effects.length → ∃ p w, ∀ out, applyM_B2 c command param vals k out = out.set p w := fun k hk =>
      const_step h1 h2 hk fun x hx => by
        have := scan_at hL (j := k) hk
        unfold lRepeatsM_B1 at this
        rw [command_eq] at this
        simp only [hx, cond_eq_ite] at this
        split at this
        · cases this
        · rename_i g
          simp at g
          omega
    obtain ⟨hf1, hf2⟩ := fold_eq (vals := vals) h1 h2 (accept_fits h3) h5
    have hlen : (applyM_L2 c command param vals vals).length = vals.length := fold_len2 hstep _ 0 (by rw [command_eq]; omega) vals
    have htwo : applyM_L2 c command param vals (applyM_L2 c command param vals vals) = applyM_L2 c command param vals vals := fold_twice hstep vals
    have hagain := apply_of (vals := applyM_L2 c command param vals vals) h1 h2 h3 (hlen.trans h4) (by rw [hf1]; exact hf2)
    have hagain : applyM c command param (applyM_L2 c command param vals vals) = (applyM_L2 c command param vals vals, 0) := hagain.trans (by
      rw [show applyM_L2 c command param (applyM_L2 c command param vals vals) (applyM_L2 c command param vals vals) = applyM_L2 c command param vals (applyM_L2 c command param vals vals) from rfl, htwo])
    rw [h6]
    simp only
    rw [hagain, sameValues_refl]
    simp
end Go.Proofs.YtelohjccoimnaaaDoor
