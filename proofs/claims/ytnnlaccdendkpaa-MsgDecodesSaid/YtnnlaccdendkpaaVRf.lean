/- Readers: what was written is read, and nothing else. Conditions: none. -/
import Derived.Test.YtnnlaccdendkpaaVRe
import Derived.Laws.DeepNot64
namespace Go.Proofs.Ytnnlaccdendkpaa
open Go Go.Av Go.Hh Go.Proofs
abbrev rd0 (s : ByteArray) : Rd := ⟨s, 0, true⟩
theorem varint_dec {s : ByteArray} {U N : Int} (h : varintM s = (U, N, 0)) : ∃ (u : Nat) (t : ByteArray), U = (u : Int) ∧ s = vbs u ++ t ∧ N = (((vbs u).size : Nat) : Int) ∧ u < 18446744073709551616 := by
 unfold varintM at h
 split at h
 ·rename_i r hr
  subst h
  unfold varintM_L1 at hr
  obtain ⟨u, t, h1, h2, h3, _, h5⟩ := var_dec s.size 0 0 U N (by omega) (by decide) (by decide) hr
  refine ⟨u, ⟨t.toArray⟩, by rw [h1]; simp, bytes_ext ?_, by rw [h3, vbs_size]; simp, by omega⟩
  rw [ByteArray.data_append, Array.toList_append, vbs_list]
  simpa using h2
 ·simp at h
theorem xorI_comm (k : IntKind) (a b : Int) : xorI k a b = xorI k b a := by
 unfold xorI
 rw [BitVec.xor_comm]
theorem xor_i0 (a : Nat) (h : a < 9223372036854775808) : xorI .i64 (a : Int) 0 = (a : Int) := by
 unfold xorI
 have e : BitVec.ofInt IntKind.i64.bits (0 : Int) = 0#_ := rfl
 rw [e, BitVec.xor_zero]
 have : (BitVec.ofInt 64 (a : Int)).toNat = a := ofInt_u64 a (by omega)
 show IntKind.i64.wrap (((BitVec.ofInt 64 (a : Int)).toNat : Nat) : Int) = _
 rw [this, wrap64_of _ (by omega) (by omega)]
theorem xor_i1 (a : Nat) (h : a < 9223372036854775808) : xorI .i64 (a : Int) (-1) = -1 - (a : Int) := by
 rw [xorI_comm]
 exact i64_not a h
theorem unz_bits {u : Nat} (h : u < 18446744073709551616) : xorI .i64 (IntKind.i64.wrap ((u : Int).fdiv 2)) (IntKind.i64.wrap (0 - IntKind.i64.wrap (andI .u64 (u : Int) 1))) = unz u := by
 have e1 : IntKind.i64.wrap ((u : Int).fdiv 2) = ((u / 2 : Nat) : Int) := by
  rw [Int.fdiv_eq_ediv_of_nonneg _ (by decide), wrap64_of _ (by omega) (by omega)]
  omega
 have e2 : andI .u64 (u : Int) 1 = ((u % 2 : Nat) : Int) := by
  rw [show (1 : Int) = ((1 : Nat) : Int) from rfl, and_u64 _ _ h (by decide), nat_mask1]
 rw [e1, e2]
 unfold unz
 split
 ·rename_i h0
  rw [h0]
  exact xor_i0 _ (by omega)
 ·rename_i h0
  rw [show u % 2 = 1 by omega]
  exact xor_i1 _ (by omega)
theorem rd_ok {r : Rd} (h : rdErrM r = 0) : r = rd0 r.rest := by
 obtain ⟨s, e, m⟩ := r
 unfold rdErrM at h
 cases m with
 | false => cases h
 | true => simp at h; rw [h]
theorem int_bad {r : Rd} (h : rdErrM r ≠ 0) : rdIntM r = (0, r) := by
 unfold rdIntM
 rw [show (rdErrM r != 0) = true by simpa using h]
 rfl
theorem count_bad {r : Rd} (n : Int) (h : rdErrM r ≠ 0) : rdCountM r n = (0, r) := by
 unfold rdCountM
 rw [int_bad h, show (rdErrM r != 0) = true by simpa using h]
 rfl
theorem text_bad {r : Rd} (n : Int) (h : rdErrM r ≠ 0) : rdTextM r n = (⟨#[]⟩, r) := by
 unfold rdTextM
 rw [count_bad n h, show (rdErrM r != 0) = true by simpa using h]
 rfl
end Go.Proofs.Ytnnlaccdendkpaa
