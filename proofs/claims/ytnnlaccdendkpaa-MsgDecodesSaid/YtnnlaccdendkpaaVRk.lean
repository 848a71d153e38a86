/- Readers: the program's and the reference's go the same way. Conditions: none. -/
import Derived.Test.YtnnlaccdendkpaaVRh
namespace Go.Proofs.Ytnnlaccdendkpaa
open Go Go.Av Go.Hh Go.Proofs
theorem ext_list (s : ByteArray) (n : Nat) : (s.extract n s.size).data.toList = s.data.toList.drop n := by
 rw [ByteArray.data_extract, Array.toList_extract]
 have hs : s.size = s.data.toList.length := rfl
 rw [hs]
 simp [List.extract]
 rw [List.take_of_length_le (l := List.drop n s.data.toList) (by rw [List.length_drop]; exact Nat.le_refl _)]
theorem ext_ext (s : ByteArray) (n j : Nat) : (s.extract n s.size).extract j (s.extract n s.size).size = s.extract (n + j) s.size := bytes_ext (by
 rw [ext_list, ext_list, ext_list, List.drop_drop])
def Rel (r : Rd) (q : RRd) : Prop := RdOk q ∧ r = ⟨q.s.extract q.at_.toNat q.s.size, q.bad, q.made⟩
theorem rel_err {r : Rd} {q : RRd} (h : Rel r q) : rdErrM r = rrErrM q := by
 rw [h.2]
 rfl
theorem rr_b1 {q : RRd} (ho : RdOk q) {k acc : Nat} (hk : k ≤ 9) (ha : acc < 128 ^ k) {e : UInt8} (he : (q.s.extract q.at_.toNat q.s.size).data.toList[k]? = some e) : rrIntM_B1 q k (acc : Int) =
    if (0 < k ∧ e.toNat = 0) ∨ (k = 9 ∧ 1 < e.toNat) then .ret (0, ⟨q.s, q.at_, 4, q.made⟩) else if e.toNat < 128 then .ret (unz (acc + e.toNat % 128 * 128 ^ k), ⟨q.s, q.at_ + ((k + 1 : Nat) : Int), q.bad, q.made⟩) else .nxt ((acc + e.toNat % 128 * 128 ^ k : Nat) : Int) := by
  obtain ⟨h1, h2, h3⟩ := ho
  have hu := u8_lt e
  rw [ext_list, List.getElem?_drop] at he
  have hlt : q.at_.toNat + k < q.s.size := (List.getElem?_eq_some_iff.1 he).1
  have w1 : IntKind.i64.wrap (q.at_ + (k : Int)) = q.at_ + (k : Int) := wrap64_of _ (by omega) (by omega)
  have w2 : IntKind.i64.wrap (q.at_ + (k : Int) + 1) = q.at_ + ((k + 1 : Nat) : Int) := by rw [wrap64_of _ (by omega) (by omega)]; omega
  have w3 : (q.at_ + (k : Int)).toNat = q.at_.toNat + k := by omega
  unfold rrIntM_B1
  dsimp only
  rw [w1, decide_eq_false (show ¬ q.at_ + (k : Int) ≥ (q.s.size : Int) by omega), cond_false, w3, he]
  dsimp only
  rw [w2]
  have ec : (e.toNat : Int).tmod 128 = andI .u8 (e.toNat : Int) 127 := by
    rw [show (127 : Int) = ((127 : Nat) : Int) from rfl, and_u8 _ _ hu (by decide), nat_mask7, Int.tmod_eq_emod_of_nonneg (by omega)]
    omega
  rw [ec, cond_eq_ite]
  by_cases h1 : (0 < k ∧ e.toNat = 0) ∨ (k = 9 ∧ 1 < e.toNat)
  · rw [if_pos h1, if_pos]
    simp only [Bool.or_eq_true, Bool.and_eq_true, decide_eq_true_eq, beq_iff_eq]
    omega
  · have hd : e.toNat % 128 * 128 ^ k < 9223372036854775808 * 2 ∧ acc + e.toNat % 128 * 128 ^ k < 18446744073709551616 := by
      rcases Nat.lt_or_ge k 9 with h9 | h9
      · have hp : 128 ^ k ≤ 128 ^ 8 := Nat.pow_le_pow_right (by decide) (by omega)
        have : e.toNat % 128 * 128 ^ k ≤ 127 * 128 ^ 8 := Nat.mul_le_mul (by omega) hp
        have e8 : (128 : Nat) ^ 8 = 72057594037927936 := by decide
        omega
      · have hk9 : k = 9 := by omega
        subst hk9
        have : e.toNat % 128 * 128 ^ 9 ≤ 1 * 128 ^ 9 := Nat.mul_le_mul (by omega) (Nat.le_refl _)
        have e9 : (128 : Nat) ^ 9 = 9223372036854775808 := by decide
        omega
    rw [if_neg h1, if_neg (by
      simp only [Bool.or_eq_true, Bool.and_eq_true, decide_eq_true_eq, beq_iff_eq]
      omega), or_step hk hu ha (by omega), cond_eq_ite]
    by_cases h2 : e.toNat < 128
    · rw [if_pos h2, if_pos (by rw [decide_eq_true_eq]; omega)]
      generalize acc + e.toNat % 128 * 128 ^ k = Z at *
      have v1 : IntKind.i64.wrap ((Z : Int).fdiv 2) = ((Z / 2 : Nat) : Int) := by
        rw [Int.fdiv_eq_ediv_of_nonneg _ (by decide), wrap64_of _ (by omega) (by omega)]
        omega
      have v2 : (Z : Int).tmod 2 = ((Z % 2 : Nat) : Int) := by rw [Int.tmod_eq_emod_of_nonneg (by omega)]; omega
      rw [v1, v2]
      unfold unz
      by_cases h0 : Z % 2 = 0
      · rw [if_pos h0, h0]
        rfl
      · rw [if_neg h0, show Z % 2 = 1 by omega, wrap64_of _ (by omega) (by omega)]
        rfl
    · rw [if_neg h2, if_neg (by rw [decide_eq_true_eq]; omega)]
theorem rr_b0 {q : RRd} (ho : RdOk q) {k : Nat} {acc : Int} (hk : k ≤ 9) (he : q.s.size ≤ q.at_.toNat + k) : rrIntM_B1 q k acc = .ret (0, ⟨q.s, q.at_, 5, q.made⟩) := by
 obtain ⟨h1, h2, h3⟩ := ho
 have w1 : IntKind.i64.wrap (q.at_ + (k : Int)) = q.at_ + (k : Int) := wrap64_of _ (by omega) (by omega)
 unfold rrIntM_B1
 dsimp only
 rw [w1, decide_eq_true (show q.at_ + (k : Int) ≥ (q.s.size : Int) by omega)]
 rfl
theorem rr_loop {q : RRd} (ho : RdOk q) : ∀ (m k acc : Nat), k + m = 10 → k ≤ 9 → acc < 128 ^ k → k ≤ (q.s.extract q.at_.toNat q.s.size).size →
    loopS (rrIntM_B1 q) k m (acc : Int) = match loopS (varintM_B1 (q.s.extract q.at_.toNat q.s.size)) k ((q.s.extract q.at_.toNat q.s.size).size - k) (acc : Int) with
      | .inl (U, N, E) => if E = 0 then .inl (unz U.toNat, ⟨q.s, q.at_ + N, q.bad, q.made⟩) else .inl (0, ⟨q.s, q.at_, E, q.made⟩)
      | .inr _ => .inl (0, ⟨q.s, q.at_, 5, q.made⟩)
  | 0, k, acc, hm, hk, _, _ => by omega
  | m + 1, k, acc, hm, hk, ha, hsz => by
    have hss : (q.s.extract q.at_.toNat q.s.size).size = q.s.size - q.at_.toNat := by rw [ByteArray.size_extract]; omega
    rcases Nat.lt_or_ge k (q.s.extract q.at_.toNat q.s.size).size with hlt | hge
    · obtain ⟨e, he⟩ : ∃ e, (q.s.extract q.at_.toNat q.s.size).data.toList[k]? = some e := ⟨_, List.getElem?_eq_getElem (by exact hlt)⟩
      have hp : 0 < 128 ^ k := Nat.pow_pos (by decide)
      obtain ⟨j, hj⟩ : ∃ j, (q.s.extract q.at_.toNat q.s.size).size - k = j + 1 := ⟨(q.s.extract q.at_.toNat q.s.size).size - k - 1, by omega⟩
      rw [hj]
      unfold loopS
      rw [rr_b1 ho hk ha he, var_b1 he hk ha]
      by_cases h1 : (0 < k ∧ e.toNat = 0) ∨ (k = 9 ∧ 1 < e.toNat)
      · rw [if_pos h1, if_pos h1]
        rfl
      · rw [if_neg h1, if_neg h1]
        by_cases h2 : e.toNat < 128
        · rw [if_pos h2, if_pos h2]
          dsimp only
          rw [if_pos rfl, Int.toNat_natCast]
        · rw [if_neg h2, if_neg h2]
          dsimp only
          have hpk : 128 ^ (k + 1) = 128 * 128 ^ k := by rw [Nat.pow_succ, Nat.mul_comm]
          have ha2 : acc + e.toNat % 128 * 128 ^ k < 128 ^ (k + 1) := by
            have : e.toNat % 128 * 128 ^ k ≤ 127 * 128 ^ k := Nat.mul_le_mul (by omega) (Nat.le_refl _)
            omega
          have hk8 : k + 1 ≤ 9 := by
            rcases Nat.lt_or_ge k 9 with h9 | h9
            · omega
            · exact absurd (Or.inr ⟨by omega, by omega⟩) h1
          rw [rr_loop ho m (k + 1) _ (by omega) hk8 ha2 (by omega), show (q.s.extract q.at_.toNat q.s.size).size - (k + 1) = j by omega]
    · rw [show (q.s.extract q.at_.toNat q.s.size).size - k = 0 by omega]
      unfold loopS
      rw [rr_b0 ho hk (by omega)]
def Sim {α : Type} (R : Rd → α × Rd) (S : RRd → α × RRd) : Prop := ∀ r q, Rel r q → (R r).1 = (S q).1 ∧ Rel (R r).2 (S q).2
theorem rint_bad {q : RRd} (h : rrErrM q ≠ 0) : rrIntM q = (0, q) := by
 unfold rrIntM
 rw [show (rrErrM q != 0) = true by simpa using h]
 rfl
theorem sim_int : Sim rdIntM rrIntM := by
 intro r q h
 have hr := h
 by_cases h0 : rrErrM q = 0
 ·have hkeep := rrIntM_keep h.1
  have hp := h.1
  obtain ⟨ho, rfl⟩ := h
  unfold rrIntM rrIntM_L1 at hkeep ⊢
  unfold rdIntM
  rw [rel_err hr, h0]
  rw [h0] at hkeep
  simp only [bne_self_eq_false, cond_false] at hkeep ⊢
  have hl := rr_loop ho 10 0 0 (by omega) (by omega) (by decide) (by omega)
  rw [Nat.sub_zero] at hl
  rw [show ((0 : Nat) : Int) = 0 from rfl] at hl
  rw [hl] at hkeep ⊢
  generalize hs : q.s.extract q.at_.toNat q.s.size = rest at *
  unfold varintM varintM_L1
  cases hv : loopS (varintM_B1 rest) 0 rest.size 0 with
  | inr a =>
   rw [hv] at hkeep
   dsimp only at hkeep ⊢
   exact ⟨rfl, hkeep, by rw [← hs]; rfl⟩
  | inl p =>
   obtain ⟨U, N, E⟩ := p
   rw [hv] at hkeep
   dsimp only at hkeep ⊢
   by_cases hE : E = 0
   ·subst hE
    have hvar : varintM rest = (U, N, 0) := by
     unfold varintM varintM_L1
     rw [hv]
    obtain ⟨u, t, hU, ht, hN, hu⟩ := varint_dec hvar
    subst hU hN
    rw [if_pos rfl] at hkeep ⊢
    dsimp only at hkeep ⊢
    have hrest : rest.extract ((((vbs u).size : Nat) : Int)).toNat rest.size = q.s.extract (q.at_ + (((vbs u).size : Nat) : Int)).toNat q.s.size := by
     rw [← hs, ext_ext, Int.toNat_natCast]
     have := hp.1
     congr 1
     omega
    refine ⟨?_, hkeep, ?_⟩
    ·show xorI .i64 _ _ = _
     rw [unz_bits hu, Int.toNat_natCast]
    ·show (⟨rest.extract ((((vbs u).size : Nat) : Int)).toNat rest.size, q.bad, q.made⟩ : Rd) = _
     rw [hrest]
   ·rw [if_neg hE] at hkeep ⊢
    rw [show (E != 0) = true by simpa using hE]
    exact ⟨rfl, hkeep, by rw [← hs]; rfl⟩
 ·rw [rint_bad h0, int_bad (by rw [rel_err h]; exact h0)]
  exact ⟨rfl, h⟩
end Go.Proofs.Ytnnlaccdendkpaa
