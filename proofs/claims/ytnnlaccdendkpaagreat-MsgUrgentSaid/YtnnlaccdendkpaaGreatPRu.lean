/- Messages: urgency, in plain Lean. Conditions: none. -/
import Derived.Test.YtnnlaccdendkpaaGreatPRt
namespace Go.Proofs.YtnnlaccdendkpaaGreat
open Go Go.Av Go.Hh Go.Proofs
theorem find_eq (h : Home) (k : KeyV) : findM h k = rfindM h k := by
 unfold findM rfindM partM
 rw [← dev_eq]
 by_cases h0 : devCheckM h = 0
 ·rw [h0]
  rcases dev_find h k.dev h0 with ⟨g1, g2, _⟩ | ⟨j, d, g1, g2, g3, _⟩
  ·rw [g1, g2]
   rfl
  ·rw [g1, g3]
   have e1 : decide ((j : Int) < 0) = false := decide_eq_false (by omega)
   rw [e1]
   simp only [Int.toNat_natCast, g2, Bool.not_true, Bool.false_or, bne_self_eq_false, cond_false]
   rw [nIndex_eq]
   cases hi : decide (r04IndexM d.clusters k.cluster < 0) with
   | true => rfl
   | false =>
    simp only [cond_false]
    have hi := of_decide_eq_false hi
    have hp := part_pos (h := h) (x := k.cluster) (by rw [← dev_eq]; exact h0) g2 (by omega)
    rw [clusters_eq (all_names (devCheck_all h0))]
    rcases rclus_rel h k.cluster with ⟨r1, _⟩ | ⟨i, c, r1, r2, r3⟩
    ·omega
    ·rw [r1, r3]
     simp only [Int.toNat_natCast, r2, Option.getD_some, Bool.not_true, cond_false, Bool.false_or]
     rw [← attr_eq]
     cases ha : (attrM c k.attr).2 with
     | true => rfl
     | false => rw [attr_none ha]; rfl
 ·have e1 : (devCheckM h != 0) = true := by simpa using h0
  have e2 : devFindM h k.dev = ((⟨0, 0, 0, false, 0, ⟨#[]⟩, []⟩ : Dev), false) := by unfold devFindM; rw [e1]; rfl
  rw [e1, e2, Bool.or_true]
  rfl
theorem safe_eq (h : Home) (k : KeyV) : safeM h k = rsafeM h k := by
 unfold safeM rsafeM
 rw [find_eq]
theorem iterN_congr {A : Type} {b c : Nat → A → A} : ∀ (m k : Nat) (a : A), (∀ j a, k ≤ j → j < k + m → b j a = c j a) → iterN b k m a = iterN c k m a
 | 0, _, _, _ => rfl
 | m + 1, k, a, h => by
  rw [iterN, iterN, h k a (Nat.le_refl _) (by omega)]
  exact iterN_congr m (k + 1) _ fun j a h1 h2 => h j a (by omega) (by omega)
theorem keys_eq (h : Home) (n : Int) : keysM h n = rkeysM h n := by
 unfold keysM rkeysM keysM_L1
 rw [← dev_eq]
 by_cases h0 : devCheckM h = 0
 ·rw [h0]
  rcases dev_find h n h0 with ⟨g1, g2, _⟩ | ⟨j, d, g1, g2, g3, _⟩
  ·rw [g1, devFind_none g2]
   rfl
  ·rw [g1, g3]
   have e1 : decide ((j : Int) < 0) = false := decide_eq_false (by omega)
   rw [e1]
   simp only [Int.toNat_natCast, g2, Bool.or_false, bne_self_eq_false, cond_false]
   unfold rkeysM_L1
   refine iterN_congr _ _ _ fun k a _ hk => ?_
   unfold keysM_B1 rkeysM_B1
   rw [g3]
   have hx : d.clusters[k]? = some d.clusters[k] := List.getElem?_eq_getElem (by omega)
   rw [hx]
   dsimp only
   have hp := ref_pos (by rw [← dev_eq]; exact h0) g2 hx
   unfold keysM_L2 rkeysM_L2 keysM_B2 rkeysM_B2
   rw [clusters_eq (all_names (devCheck_all h0))]
   rcases rclus_rel h d.clusters[k] with ⟨r1, _⟩ | ⟨i, c, r1, r2, r3⟩
   ·omega
   ·rcases mget_map (l := h.clusters) (x := d.clusters[k]) with ⟨q1, _⟩ | ⟨i', c', q1, q2, q3, _⟩
    ·rw [q1] at r3; cases r3
    ·rw [q1] at r3
     cases r3
     rw [r1]
     simp only [Int.toNat_natCast, r2, q1, Option.getD_some, q3]
 ·have e1 : (devCheckM h != 0) = true := by simpa using h0
  have e2 : devFindM h n = ((⟨0, 0, 0, false, 0, ⟨#[]⟩, []⟩ : Dev), false) := by unfold devFindM; rw [e1]; rfl
  rw [e1, e2, Bool.true_or]
  rfl
theorem scan_or {b c : Nat → Option Bool} {n k : Nat} (hb : ∀ j r, b j = some r → r = true) (hc : ∀ j r, c j = some r → r = true) : (scanN b 0 n).getD ((scanN c 0 k).getD false) = (scanN c 0 k).getD ((scanN b 0 n).getD false) := by
 cases h1 : scanN b 0 n with
 | none => cases scanN c 0 k <;> rfl
 | some r =>
  obtain ⟨j, _, _, h2, _⟩ := scanN_get h1
  cases hb j r h2
  cases h3 : scanN c 0 k with
  | none => rfl
  | some q =>
   obtain ⟨i, _, _, h4, _⟩ := scanN_get h3
   cases hc i q h4
   rfl
theorem some_true {a : Bool} {r : Bool} (h : (bif a then some true else none) = some r) : r = true := by
 cases a with
 | true => cases h; rfl
 | false => cases h
theorem urgent_eq (h : Home) (m : MsgV) : urgentM h m = rurgentM h m := by
 have l1 : urgentM_L1 h m = rurgentM_L2 h m := by
  unfold urgentM_L1 rurgentM_L2
  rw [keys_eq]
  refine scanN_congr fun j _ _ => ?_
  unfold urgentM_B1 rurgentM_B2
  rw [keys_eq]
  cases (rkeysM h m.dev)[j]? with
  | none => rfl
  | some e =>
   dsimp only
   rw [safe_eq]
   cases beqS e.cluster m.cluster <;> rfl
 have l2 : urgentM_L2 h m = rurgentM_L1 h m := by
  unfold urgentM_L2 rurgentM_L1
  refine scanN_congr fun j _ _ => ?_
  unfold urgentM_B2 rurgentM_B1
  simp only [safe_eq]
 have o1 : ∀ j r, rurgentM_B2 h m j = some r → r = true := fun j r hj => by
  unfold rurgentM_B2 at hj
  split at hj
  ·rename_i e _
   cases hb : beqS e.cluster m.cluster with
   | true => rw [hb] at hj; exact some_true hj
   | false => rw [hb] at hj; cases hj
  ·cases hj
 have o2 : ∀ j r, rurgentM_B1 h m j = some r → r = true := fun j r hj => by
  unfold rurgentM_B1 at hj
  split at hj
  ·exact some_true hj
  ·cases hj
 unfold urgentM rurgentM
 rw [mcheck_eq, l1, l2]
 cases (rmCheckM m != 0) with
 | true => rfl
 | false =>
  show (bif hasNamesM m.kind then _ else _) = _
  have hn : hasNamesM m.kind = (m.kind == 5) := rfl
  rw [hn]
  by_cases h5 : m.kind = 5
  ·rw [show (m.kind == 5) = true by simpa using h5, show (m.kind != 5) = false by simpa using h5]
   exact scan_or o1 o2
  ·rw [show (m.kind == 5) = false by simpa using h5, show (m.kind != 5) = true by simpa using h5]
   rfl
theorem lUrgent_true (h : Home) (m : MsgV) : lUrgentM h m = true := by
 unfold lUrgentM
 rw [awake_true, urgent_eq]
 cases smallM m <;> cases modestM h <;> simp
end Go.Proofs.YtnnlaccdendkpaaGreat
