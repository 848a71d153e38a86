/- Numbers as bytes: reading what was written, and nothing else. Conditions: none. -/
import Derived.Test.YtnnlaccdendkpaaVRd
namespace Go.Proofs.Ytnnlaccdendkpaa
open Go Go.Av Go.Hh Go.Proofs
theorem foldPush_list : ∀ (l : List Int) (s : ByteArray), (l.foldl (fun r n => r.push (UInt8.ofNat n.toNat)) s).data.toList = s.data.toList ++ l.map fun n => UInt8.ofNat n.toNat
 | [], s => by simp
 | n :: l, s => by
  rw [List.foldl_cons, foldPush_list l, ByteArray.data_push, Array.toList_push, List.map_cons, List.append_assoc, List.singleton_append]
theorem bytesOf_list (l : List Int) : (bytesOf l).data.toList = l.map fun n => UInt8.ofNat n.toNat := by
 unfold bytesOf
 rw [foldPush_list]
 rfl
theorem bytes_ext {a b : ByteArray} (h : a.data.toList = b.data.toList) : a = b := ByteArray.ext (Array.toList_inj.1 h)
def ub (l : List Nat) : List UInt8 := l.map UInt8.ofNat
theorem vbs_list (u : Nat) : (vbs u).data.toList = ub (vbF 9 u) := by
 unfold vbs ub
 rw [bytesOf_list, List.map_map]
 rfl
theorem vbs_size (u : Nat) : (vbs u).size = (vbF 9 u).length := by
 unfold vbs
 rw [bytesOf_size, List.length_map]
theorem pow_split (k : Nat) : 128 ^ k = 2 ^ (7 * k) := by rw [Nat.pow_mul]
theorem or_step {k acc c : Nat} (hk : k ≤ 9) (hc : c < 256) (ha : acc < 128 ^ k) (hd : c % 128 * 128 ^ k < 18446744073709551616) :
    orI .u64 (acc : Int) (IntKind.u64.wrap ((IntKind.u64.wrap (andI .u8 (c : Int) 127)) * 2 ^ (min (IntKind.i64.wrap (7 * (k : Int))).toNat 64))) = ((acc + c % 128 * 128 ^ k : Nat) : Int) := by
  have e1 : andI .u8 (c : Int) 127 = ((c % 128 : Nat) : Int) := by
    rw [show (127 : Int) = ((127 : Nat) : Int) from rfl, and_u8 _ _ hc (by decide), nat_mask7]
  have e2 : min (IntKind.i64.wrap (7 * (k : Int))).toNat 64 = 7 * k := by
    rw [wrap64_of _ (by omega) (by omega)]
    omega
  have e3 : IntKind.u64.wrap ((c % 128 : Nat) : Int) = ((c % 128 : Nat) : Int) := by rw [u64w]; omega
  have e4 : (((c % 128 : Nat) : Int) * 2 ^ (7 * k)) = ((c % 128 * 128 ^ k : Nat) : Int) := by
    rw [pow_split]; push_cast; rfl
  have hp : 128 ^ k ≤ 128 ^ 9 := Nat.pow_le_pow_right (by decide) hk
  rw [e1, e2, e3, e4, u64w]
  have e5 : ((c % 128 * 128 ^ k : Nat) : Int) % 18446744073709551616 = ((c % 128 * 128 ^ k : Nat) : Int) := by omega
  rw [e5, or_u64 _ _ (by have : (128 : Nat) ^ 9 = 9223372036854775808 := by decide
                         omega) hd]
  rw [Nat.or_comm, nat_join (7 * k) _ _ (by rw [pow_split]; exact Nat.mul_mod_left _ _) (by rw [← pow_split]; exact ha), Nat.add_comm]
theorem u8_lt (e : UInt8) : e.toNat < 256 := e.toNat_lt
theorem var_b1 {s : ByteArray} {k : Nat} {e : UInt8} {acc : Nat} (he : s.data.toList[k]? = some e) (hk : k ≤ 9) (ha : acc < 128 ^ k) : varintM_B1 s k (acc : Int) =
    if (0 < k ∧ e.toNat = 0) ∨ (k = 9 ∧ 1 < e.toNat) then .ret (0, 0, 4) else if e.toNat < 128 then .ret (((acc + e.toNat % 128 * 128 ^ k : Nat) : Int), ((k + 1 : Nat) : Int), 0) else .nxt ((acc + e.toNat % 128 * 128 ^ k : Nat) : Int) := by
  have hu := u8_lt e
  unfold varintM_B1
  dsimp only
  rw [he]
  dsimp only
  rw [cond_eq_ite]
  by_cases h1 : (0 < k ∧ e.toNat = 0) ∨ (k = 9 ∧ 1 < e.toNat)
  · rw [if_pos h1, if_pos]
    simp only [Bool.or_eq_true, Bool.and_eq_true, decide_eq_true_eq, beq_iff_eq]
    omega
  · have hd : e.toNat % 128 * 128 ^ k < 18446744073709551616 := by
      rcases Nat.lt_or_ge k 9 with h9 | h9
      · have hp : 128 ^ k ≤ 128 ^ 8 := Nat.pow_le_pow_right (by decide) (by omega)
        have : e.toNat % 128 * 128 ^ k ≤ 127 * 128 ^ 8 := Nat.mul_le_mul (by omega) hp
        exact Nat.lt_of_le_of_lt this (by decide)
      · have hk9 : k = 9 := by omega
        subst hk9
        have : e.toNat % 128 * 128 ^ 9 ≤ 1 * 128 ^ 9 := Nat.mul_le_mul (by omega) (Nat.le_refl _)
        exact Nat.lt_of_le_of_lt this (by decide)
    rw [if_neg h1, if_neg (by
      simp only [Bool.or_eq_true, Bool.and_eq_true, decide_eq_true_eq, beq_iff_eq]
      omega), or_step hk hu ha hd, cond_eq_ite]
    by_cases h2 : e.toNat < 128
    · rw [if_pos h2, if_pos (by rw [decide_eq_true_eq]; omega)]
    · rw [if_neg h2, if_neg (by rw [decide_eq_true_eq]; omega)]
theorem var_dec {s : ByteArray} : ∀ (m k acc : Nat) (U N : Int), k + m = s.size → acc < 128 ^ k → k ≤ 9 → loopS (varintM_B1 s) k m (acc : Int) = .inl (U, N, 0) →
    ∃ (u : Nat) (t : List UInt8), U = ((acc + u * 128 ^ k : Nat) : Int) ∧ s.data.toList.drop k = ub (vbF (9 - k) u) ++ t ∧ N = ((k + (vbF (9 - k) u).length : Nat) : Int) ∧ (0 < k → 0 < u) ∧ acc + u * 128 ^ k < 18446744073709551616
  | 0, k, acc, U, N, _, _, _, h => by simp [loopS] at h
  | m + 1, k, acc, U, N, hs, ha, hk, h => by
    have hlt : k < s.data.toList.length := by
      have : s.data.toList.length = s.size := rfl
      omega
    obtain ⟨e, he⟩ : ∃ e, s.data.toList[k]? = some e := ⟨_, List.getElem?_eq_getElem hlt⟩
    have hdk : s.data.toList.drop k = e :: s.data.toList.drop (k + 1) := by
      rw [List.drop_eq_getElem_cons hlt]
      congr 1
      rw [List.getElem?_eq_getElem hlt] at he
      exact Option.some.inj he
    have hu8 := u8_lt e
    have hpk : 128 ^ (k + 1) = 128 * 128 ^ k := by rw [Nat.pow_succ, Nat.mul_comm]
    have hp9 : 128 ^ k ≤ 128 ^ 9 := Nat.pow_le_pow_right (by decide) hk
    have e9 : (128 : Nat) ^ 9 = 9223372036854775808 := by decide
    unfold loopS at h
    rw [var_b1 he hk ha] at h
    split at h
    · rename_i r hr
      split at hr
      · cases hr; cases h
      · rename_i hq
        split at hr
        · rename_i hc
          cases hr
          simp only [Sum.inl.injEq, Prod.mk.injEq] at h
          obtain ⟨rfl, rfl, _⟩ := h
          have hv : vbF (9 - k) e.toNat = [e.toNat] := by
            rcases Nat.lt_or_ge k 9 with h9 | h9
            · obtain ⟨f, hf⟩ : ∃ f, 9 - k = f + 1 := ⟨8 - k, by omega⟩
              rw [hf]
              unfold vbF
              rw [if_pos hc]
            · rw [show 9 - k = 0 by omega]; rfl
          have h64 : acc + e.toNat * 128 ^ k < 18446744073709551616 := by
            rcases Nat.lt_or_ge k 9 with h9 | h9
            · have hp : 128 ^ k ≤ 128 ^ 8 := Nat.pow_le_pow_right (by decide) (by omega)
              have h2 : e.toNat * 128 ^ k ≤ 127 * 128 ^ 8 := Nat.mul_le_mul (by omega) hp
              have e8 : 127 * (128 : Nat) ^ 8 = 9151314442816847872 := by decide
              omega
            · have hk9 : k = 9 := by omega
              subst hk9
              have : e.toNat * 128 ^ 9 ≤ 1 * 128 ^ 9 := Nat.mul_le_mul (by omega) (Nat.le_refl _)
              omega
          refine ⟨e.toNat, s.data.toList.drop (k + 1), by rw [Nat.mod_eq_of_lt hc], ?_, by rw [hv]; rfl, fun h0 => by omega, h64⟩
          rw [hv, hdk]
          simp [ub]
        · cases hr
    · rename_i a hr
      split at hr
      · cases hr
      · split at hr <;> cases hr
    · rename_i a hr
      split at hr
      · cases hr
      · rename_i hq
        split at hr
        · cases hr
        · rename_i hc
          cases hr
          have hk8 : k ≤ 8 := by
            rcases Nat.lt_or_ge k 9 with h9 | h9
            · omega
            · exact absurd (Or.inr ⟨by omega, by omega⟩) hq
          have ha2 : acc + e.toNat % 128 * 128 ^ k < 128 ^ (k + 1) := by
            have : e.toNat % 128 * 128 ^ k ≤ 127 * 128 ^ k := Nat.mul_le_mul (by omega) (Nat.le_refl _)
            omega
          obtain ⟨u, t, h1, h2, h3, h4, h5⟩ := var_dec m (k + 1) (acc + e.toNat % 128 * 128 ^ k) U N (by omega) ha2 (by omega) h
          have hu0 := h4 (by omega)
          have hsum : acc + e.toNat % 128 * 128 ^ k + u * 128 ^ (k + 1) = acc + (e.toNat % 128 + u * 128) * 128 ^ k := by
            rw [hpk, Nat.add_mul, Nat.add_assoc, Nat.mul_assoc]
          have hv : vbF (9 - k) (e.toNat % 128 + u * 128) = e.toNat :: vbF (9 - (k + 1)) u := by
            rw [show 9 - k = (9 - (k + 1)) + 1 by omega]
            conv => lhs; unfold vbF
            rw [if_neg (by omega)]
            congr 1
            · omega
            · congr 1
              omega
          refine ⟨e.toNat % 128 + u * 128, t, by rw [h1, hsum], ?_, ?_, fun _ => by omega, by rw [← hsum]; exact h5⟩
          · rw [hv, hdk, h2]
            simp [ub]
          · rw [hv, h3, List.length_cons]
            congr 1
            omega
end Go.Proofs.Ytnnlaccdendkpaa
