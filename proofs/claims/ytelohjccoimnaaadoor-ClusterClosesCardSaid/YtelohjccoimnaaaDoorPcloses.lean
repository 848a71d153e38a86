/- Chapter 21: the statement ClusterCloses computes true. Conditions: none. -/
import Derived.Test.YtelohjccoimnaaaDoorPe
import Derived.Test.YtelohjccoimnaaaDoorA11
namespace Go.Proofs.YtelohjccoimnaaaDoor
open Go Go.Av Go.Hh Go.Proofs
theorem iterN_or {b : Nat → Bool → Bool} {f : Nat → Bool} {n : Nat} (h : ∀ k x, k < n → b k x = (x || f k)) : ∀ (m k : Nat) (x : Bool), k + m ≤ n → iterN b k m x = false → x = false ∧ ∀ j, k ≤ j → j < k + m → f j = false
  | 0, _, _, _, hx => ⟨hx, fun j h1 h2 => by omega⟩
  | m + 1, k, x, hk, hx => by
    obtain ⟨h1, h2⟩ := iterN_or h m (k + 1) (b k x) (by omega) hx
    rw [h k x (by omega), Bool.or_eq_false_iff] at h1
    refine ⟨h1.1, fun j hj hj2 => ?_⟩
    by_cases e : j = k
    · subst e; exact h1.2
    · exact h2 j (by omega) (by omega)
theorem fold_len {c : Cluster} {command : ByteArray} {param : Val} {vals : List Val} (out : List Val) : (rapplyM_L2 c command param vals out).length = out.length := by
  refine (iterN_inv (b := rapplyM_B2 c command param vals) (I := fun l => l.length = out.length) (n := ((rcommandM c command).1).effects.length) (fun k x _ hx => ⟨rfl, ?_⟩) _ 0 out (by omega) rfl).2
  unfold rapplyM_B2
  simp only
  split <;> (try split) <;> (try split) <;> simp [hx]
theorem fold_at {c : Cluster} {command : ByteArray} {param : Val} {vals : List Val} (h : rcheckM c = 0) (hc : (rcommandM c command).2 = true) (out : List Val) {i : Nat} {a : Attr} (ha : c.attrs[i]? = some a)
    (hn : ∀ (k : Nat) (x : Effect), ((rcommandM c command).1).effects[k]? = some x → x.attr ≠ a.name) : (rapplyM_L2 c command param vals out)[i]? = out[i]? := by
  refine (iterN_inv (b := rapplyM_B2 c command param vals) (I := fun l => l[i]? = out[i]?) (n := ((rcommandM c command).1).effects.length) (fun k x hk hx => ⟨rfl, ?_⟩) _ 0 out (by omega) rfl).2
  obtain ⟨j, hj⟩ := rcommand_mem hc
  have he := List.getElem?_eq_getElem hk
  obtain ⟨p, d, ho⟩ := effect_ok (rcheck_effect h hj he)
  unfold rapplyM_B2
  simp only [he]
  rw [ho.place, Int.toNat_natCast, ho.at_]
  simp only
  cases hp : x[p]? with
  | none => exact hx
  | some v =>
    simp only
    rw [List.getElem?_set_ne (fun e => hn k _ he (by subst e; have h9 := ho.at_; rw [ha] at h9; cases h9; exact ho.name.symm))]
    exact hx
theorem lClosesM_true (c : Cluster) (command : ByteArray) (param : Val) (vals : List Val) : lClosesM c command param vals = true := by
  unfold lClosesM
  rw [Bool.or_eq_true]
  refine .inr ?_
  rcases apply_cases c command param vals with ⟨n, hn, h1, _⟩ | ⟨h1, h2, h3, h4, h5, h6, _⟩
  · rw [h1]
    simp [hn]
  obtain ⟨hf1, hf2⟩ := fold_eq (vals := vals) h1 h2 (accept_fits h3) h5
  have ho : applyM c command param vals = (rapplyM_L2 c command param vals vals, 0) := by rw [h6, hf1]
  have hlen := fold_len (c := c) (command := command) (param := param) (vals := vals) vals
  have hL : lClosesM_L1 c command param vals = none := scan_none fun k hk => by
    unfold lClosesM_B1
    rw [ho]
    have ha := List.getElem?_eq_getElem hk
    have hv : vals[k]? = some vals[k] := List.getElem?_eq_getElem (by omega)
    have hw : (rapplyM_L2 c command param vals vals)[k]? = some (rapplyM_L2 c command param vals vals)[k] := List.getElem?_eq_getElem (by omega)
    simp only [ha, hv, hw]
    rw [fits_eq, (fits_iff _ _).2 (hf2 k _ _ ha hw)]
    simp only [bne_self_eq_false, cond_false]
    cases hL2 : lClosesM_L2 c command param vals c.attrs[k] false with
    | true => rfl
    | false =>
      simp only [Bool.not_false, cond_true]
      have hno := iterN_or (f := fun j => match ((rcommandM c command).1).effects[j]? with | some x => beqS x.attr (c.attrs[k]).name | none => false) (n := ((rcommandM c command).1).effects.length) (fun j x hj => by
        unfold lClosesM_B2
        rw [command_eq]
        simp only [List.getElem?_eq_getElem hj]
        cases x <;> rfl) ((rcommandM c command).1).effects.length 0 false (by omega) hL2
      have heq := fold_at (param := param) (vals := vals) h1 h2 vals ha (fun j x hj => by
        have := hno.2 j (by omega) (by have := getElem_lt hj; omega)
        simp only [hj] at this
        exact beqS_false.1 this)
      rw [hw, hv] at heq
      rw [Option.some.inj heq, beqS_refl]
      simp
  rw [ho, hL, command_eq, h2]
  simp
  omega
end Go.Proofs.YtelohjccoimnaaaDoor
