/- Messages: the program and the reference check the same; the examples. Conditions: none. -/
import Derived.Test.YtnnlaccdendkpaaVB10
namespace Go.Proofs.Ytnnlaccdendkpaa
open Go Go.Av Go.Hh Go.Proofs
theorem scanN_map {R T : Type} (f : R → T) (b : Nat → Option R) : ∀ (m k : Nat), scanN (fun j => (b j).map f) k m = (scanN b k m).map f
 | 0, _ => rfl
 | m + 1, k => by
  unfold scanN
  cases b k with
  | none => exact scanN_map f b m (k + 1)
  | some r => rfl
theorem flags_eq (m : MsgV) : (spareM_L1 m).getD false = !(rflagsM m.data) := by
 have h : rflagsM_L1 m.data = (spareM_L1 m).map not := by
  unfold rflagsM_L1 spareM_L1
  rw [← scanN_map]
  refine scanN_congr fun j _ _ => ?_
  unfold rflagsM_B1 spareM_B1
  cases (m.data.data.toList)[j]? with
  | none => rfl
  | some e => dsimp only; cases decide ((e.toNat : Int) > 1) <;> rfl
 unfold rflagsM
 rw [h]
 cases spareM_L1 m with
 | none => rfl
 | some b => cases b <;> rfl
theorem spare_eq (m : MsgV) : spareM m = (!(rspareM m) || ((m.kind == 7) && !(rflagsM m.data))) := by
 unfold spareM rspareM
 rw [flags_eq]
 simp only [hasItemsM, hasEpochM, hasNamesM, hasDataM, rhasItemsM, rhasEpochM, rhasDataM]
 generalize (m.kind == 1 || m.kind == 3) = a
 generalize decide ((m.items.length : Int) > 0) = b
 generalize (m.kind != 7) = c
 generalize (m.epoch != 0) = d
 generalize (m.kind == 5) = e
 generalize beqS m.cluster (⟨#[]⟩) = f
 generalize beqS m.name (⟨#[]⟩) = g
 generalize (m.kind == 6 || m.kind == 7) = h
 generalize beqS m.data (⟨#[]⟩) = i
 generalize (m.kind == 7) = j
 generalize rflagsM m.data = k
 cases a <;> cases b <;> cases c <;> cases d <;> cases e <;> cases f <;> cases g <;> cases h <;> cases i <;> cases j <;> cases k <;> rfl
theorem mcheck_eq (m : MsgV) : mCheckM m = rmCheckM m := by
 unfold mCheckM rmCheckM
 rw [spare_eq]
 have hl : mCheckM_L1 m = rmCheckM_L1 m := by
  refine scanN_congr fun j _ hj => ?_
  unfold mCheckM_B1 rmCheckM_B1 ritemM itemM
  cases hx : m.items[j]? with
  | none => rfl
  | some x =>
   dsimp only
   rw [valid_eq, valid_eq, vcheck_eq]
   simp only [countedM, rtickM, cond_eq_ite]
   by_cases h1 : (x.key.dev != m.dev) = true
   ·simp [h1]
   ·by_cases h2 : (!rvalidM x.key.cluster || !rvalidM x.key.attr) = true
    ·simp [h1, h2]
    ·by_cases h3 : (rvCheckM x.value != 0) = true
     ·simp [h1, h2, h3]
     ·by_cases h4 : (!(decide (x.version ≥ 0) && decide (x.version ≤ 1099511627776))) = true
      ·simp [h1, h2, h3, h4]
      ·simp only [h1, h2, h3, h4, if_false, Bool.false_eq_true]
       have h0 : ((0 : Int) != 0) = false := rfl
       simp only [h0, Bool.false_eq_true, if_false]
       by_cases h5 : decide ((j : Int) > 0) = true
       ·simp only [h5, if_true]
        cases m.items[(IntKind.i64.wrap ((j : Int) - 1)).toNat]? with
        | none => rfl
        | some y =>
         dsimp only
         show (if (!lessM y.key x.key) = true then some 14 else none) = if ((if (!lessM y.key x.key) = true then (14 : Int) else 0) != 0) = true then some (if (!lessM y.key x.key) = true then (14 : Int) else 0) else none
         cases lessM y.key x.key <;> rfl
       ·simp only [h5, if_false, Bool.false_eq_true]
        rfl
 rw [hl, valid_eq, valid_eq]
 rfl
theorem awake_true : awakeM = true := by decide
end Go.Proofs.Ytnnlaccdendkpaa
