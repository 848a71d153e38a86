/- Messages: the laws, in plain Lean. Conditions: none. -/
import Derived.Test.YtnnlaccdendkpaaPRj
import Derived.Test.YtnnlaccdendkpaaPB11
namespace Go.Proofs.Ytnnlaccdendkpaa
open Go Go.Av Go.Hh Go.Proofs
theorem scan_none {R : Type} {b : Nat → Option R} {n : Nat} (h : ∀ j, j < n → b j = none) : scanN b 0 n = none := scanN_all.2 fun j _ hj => h j (by omega)
theorem same_refl (m : MsgV) : msameM m m = true := by
 have hl : msameM_L1 m m = none := scan_none fun j _ => by
  unfold msameM_B1
  cases m.items[j]? with
  | none => rfl
  | some x =>
   dsimp only
   simp only [beqS_true.2 rfl, beq_self_eq_true, Bool.and_self, Bool.not_true, cond_false]
 unfold msameM
 rw [hl]
 simp only [beqS_true.2 rfl, bne_self_eq_false, Bool.not_true, Bool.or_self, cond_false]
 rfl
theorem lChecks_true (m : MsgV) : lChecksM m = true := by
 unfold lChecksM
 rw [awake_true, mcheck_eq]
 cases smallM m <;> simp
theorem decode_full {m : MsgV} (h : mCheckM m = 0) : decodeM (encM m) = (m, 0) := by
 have := decode_enc h ⟨#[]⟩
 rw [app_nil] at this
 rw [this, if_neg (by simp [nil_size])]
theorem lReturns_true (m : MsgV) : lReturnsM m = true := by
 unfold lReturnsM
 rw [awake_true]
 cases hs : smallM m with
 | false => rfl
 | true =>
  simp only [Bool.not_true, cond_false]
  by_cases hc : mCheckM m = 0
  ·obtain ⟨z1, z2⟩ := encM_sz hc
   rw [encode_ok hc, hc]
   simp only [bne_self_eq_false, cond_false, decode_full hc, same_refl]
   rw [decide_eq_true (by omega), decide_eq_true (by omega)]
   rfl
  ·rw [encode_bad hc]
   simp [hc, beqS_true.2 rfl]
theorem lCanonical_true (s : ByteArray) (c : Int) : lCanonicalM s c = true := by
 unfold lCanonicalM
 rw [awake_true]
 by_cases hz : (s.size : Int) > 1200
 ·rw [decide_eq_true hz]; rfl
 ·rw [decide_eq_false hz, cond_false]
  by_cases h0 : (decodeM s).2 = 0
  ·obtain ⟨hs, hc⟩ := decode_dec h0
   have hsz := (encM_sz hc).1
   rw [← hs] at hsz
   rw [show ((decodeM s).2 != 0) = false by simpa using h0, cond_false, hc, encode_ok hc]
   have e1 : (decodeM (s ++ bytesOf [c])).2 = 23 := by
    have := decode_enc hc (bytesOf [c])
    rw [← hs] at this
    rw [this, if_pos (by rw [bytesOf_size]; exact Nat.one_pos)]
   have e2 : (decodeM (s.extract 0 ((s.size : Int) - 1).toNat)).2 ≠ 0 := by
    intro hq
    obtain ⟨hs2, hc2⟩ := decode_dec hq
    have hn : ((s.size : Int) - 1).toNat = s.size - 1 := by omega
    rw [hn] at hs2 hc2 hq
    have hsp := ext_split s (s.size - 1) (by omega)
    have h23 := decode_enc hc2 (s.extract (s.size - 1) s.size)
    rw [← hs2, ← hsp, if_pos (by rw [ByteArray.size_extract]; omega)] at h23
    rw [h23] at h0
    cases h0
   rw [e1, ← hs, beqS_true.2 rfl, show ((s.size : Int) == 0) = false from beq_false_of_ne (by omega), show ((decodeM (s.extract 0 ((s.size : Int) - 1).toNat)).2 != 0) = true by simpa using e2]
   rfl
  ·rw [show ((decodeM s).2 != 0) = true by simpa using h0, cond_true]
   have hm : (decodeM s).1 = mz := by
    rw [decode_eq] at h0 ⊢
    split
    ·rfl
    ·rename_i h1
     rw [if_neg h1] at h0
     split
     ·rfl
     ·rename_i h2
      rw [if_neg h2] at h0
      unfold fin at h0 ⊢
      split
      ·rfl
      ·rename_i h3
       rw [if_neg h3] at h0
       split
       ·rfl
       ·rename_i h4
        rw [if_neg h4] at h0
        exact absurd rfl h0
   rw [hm, same_refl]
   rfl
end Go.Proofs.Ytnnlaccdendkpaa
