/- Readers: what was written is read, and nothing else. Conditions: none. -/
import Derived.Test.YtnnlaccdendkpaaPRe
import Derived.Laws.DeepNot64
namespace Go.Proofs.Ytnnlaccdendkpaa
open Go Go.Av Go.Hh Go.Proofs
abbrev rd0 (s : ByteArray) : Rd := ⟨s, 0, true⟩
theorem varint_enc {u : Nat} (h : u < 18446744073709551616) (t : ByteArray) : varintM (vbs u ++ t) = ((u : Int), (((vbs u).size : Nat) : Int), 0) := by
 have hl : (vbs u ++ t).data.toList.drop 0 = ub (vbF 9 u) ++ t.data.toList := by
  rw [List.drop_zero, ByteArray.data_append, Array.toList_append, vbs_list]
 have hm : (vbF 9 u).length ≤ (vbs u ++ t).size := by
  rw [ByteArray.size_append, vbs_size]
  omega
 have := var_enc 9 0 0 u t.data.toList (vbs u ++ t).size rfl hl (by decide) (Nat.lt_of_lt_of_le h (by decide)) (by omega) (fun h0 => absurd h0 (by decide)) hm
 unfold varintM varintM_L1
 rw [show (0 : Int) = ((0 : Nat) : Int) from rfl, this, vbs_size]
 simp
theorem varint_dec {s : ByteArray} {U N : Int} (h : varintM s = (U, N, 0)) : ∃ (u : Nat) (t : ByteArray), U = (u : Int) ∧ s = vbs u ++ t ∧ N = (((vbs u).size : Nat) : Int) ∧ u < 18446744073709551616 := by
 unfold varintM at h
 split at h
 ·rename_i r hr
  subst h
  unfold varintM_L1 at hr
  obtain ⟨u, t, h1, h2, h3, _, h5⟩ := var_dec s.size 0 0 U N (by omega) (by decide) (by decide) hr
  refine ⟨u, ⟨t.toArray⟩, by rw [h1]; simp, bytes_ext ?_, by rw [h3, vbs_size]; simp, by omega⟩
  rw [ByteArray.data_append, Array.toList_append, vbs_list]
  simpa using h2
 ·simp at h
theorem xorI_comm (k : IntKind) (a b : Int) : xorI k a b = xorI k b a := by
 unfold xorI
 rw [BitVec.xor_comm]
theorem xor_i0 (a : Nat) (h : a < 9223372036854775808) : xorI .i64 (a : Int) 0 = (a : Int) := by
 unfold xorI
 have e : BitVec.ofInt IntKind.i64.bits (0 : Int) = 0#_ := rfl
 rw [e, BitVec.xor_zero]
 have : (BitVec.ofInt 64 (a : Int)).toNat = a := ofInt_u64 a (by omega)
 show IntKind.i64.wrap (((BitVec.ofInt 64 (a : Int)).toNat : Nat) : Int) = _
 rw [this, wrap64_of _ (by omega) (by omega)]
theorem xor_i1 (a : Nat) (h : a < 9223372036854775808) : xorI .i64 (a : Int) (-1) = -1 - (a : Int) := by
 rw [xorI_comm]
 exact i64_not a h
theorem unz_bits {u : Nat} (h : u < 18446744073709551616) : xorI .i64 (IntKind.i64.wrap ((u : Int).fdiv 2)) (IntKind.i64.wrap (0 - IntKind.i64.wrap (andI .u64 (u : Int) 1))) = unz u := by
 have e1 : IntKind.i64.wrap ((u : Int).fdiv 2) = ((u / 2 : Nat) : Int) := by
  rw [Int.fdiv_eq_ediv_of_nonneg _ (by decide), wrap64_of _ (by omega) (by omega)]
  omega
 have e2 : andI .u64 (u : Int) 1 = ((u % 2 : Nat) : Int) := by
  rw [show (1 : Int) = ((1 : Nat) : Int) from rfl, and_u64 _ _ h (by decide), nat_mask1]
 rw [e1, e2]
 unfold unz
 split
 ·rename_i h0
  rw [h0]
  exact xor_i0 _ (by omega)
 ·rename_i h0
  rw [show u % 2 = 1 by omega]
  exact xor_i1 _ (by omega)
theorem ext_app (a t : ByteArray) : (a ++ t).extract a.size (a ++ t).size = t := by
 refine bytes_ext ?_
 rw [ByteArray.data_extract, Array.toList_extract, ByteArray.data_append, Array.toList_append, ByteArray.size_append]
 have ha : a.size = a.data.toList.length := rfl
 have ht : t.size = t.data.toList.length := rfl
 rw [ha, ht]
 simp [List.extract]
 exact List.take_of_length_le (Nat.le_refl _)
theorem ext_app0 (a t : ByteArray) : (a ++ t).extract 0 a.size = a := by
 refine bytes_ext ?_
 rw [ByteArray.data_extract, Array.toList_extract, ByteArray.data_append, Array.toList_append]
 have ha : a.size = a.data.toList.length := rfl
 rw [ha]
 simp [List.extract]
theorem ext_split (s : ByteArray) (n : Nat) (h : n ≤ s.size) : s = s.extract 0 n ++ s.extract n s.size := by
 refine bytes_ext ?_
 rw [ByteArray.data_append, Array.toList_append, ByteArray.data_extract, ByteArray.data_extract, Array.toList_extract, Array.toList_extract]
 have hs : s.size = s.data.toList.length := rfl
 rw [hs]
 simp [List.extract]
 rw [List.take_of_length_le (l := List.drop n s.data.toList) (by rw [List.length_drop]; exact Nat.le_refl _), List.take_append_drop]
structure Undo {α : Type} (read : Rd → α × Rd) (write : α → ByteArray) (ok : α → Prop) : Prop where
 enc : ∀ (a : α) (t : ByteArray), ok a → read (rd0 (write a ++ t)) = (a, rd0 t)
 dec : ∀ (r : Rd), rdErrM (read r).2 = 0 → ∃ (a : α) (t : ByteArray), r = rd0 (write a ++ t) ∧ ok a ∧ read r = (a, rd0 t)
theorem rd_ok {r : Rd} (h : rdErrM r = 0) : r = rd0 r.rest := by
 obtain ⟨s, e, m⟩ := r
 unfold rdErrM at h
 cases m with
 | false => cases h
 | true => simp at h; rw [h]
theorem err0 (s : ByteArray) : rdErrM (rd0 s) = 0 := rfl
theorem int_bad {r : Rd} (h : rdErrM r ≠ 0) : rdIntM r = (0, r) := by
 unfold rdIntM
 rw [show (rdErrM r != 0) = true by simpa using h]
 rfl
theorem int_undo : Undo rdIntM wintM I64 := by
 refine ⟨fun n t hn => ?_, fun r h => ?_⟩
 ·rw [wint_eq hn]
  unfold rdIntM
  rw [err0]
  try dsimp only
  rw [varint_enc (zig_lt hn)]
  try dsimp only
  rw [unz_bits (zig_lt hn), unz_zig, Int.toNat_natCast, ext_app]
  rfl
 ·by_cases h0 : rdErrM r = 0
  ·rw [rd_ok h0] at h ⊢
   generalize r.rest = s at *
   unfold rdIntM at h ⊢
   rw [err0] at h ⊢
   try dsimp only at h ⊢
   rcases hv : varintM s with ⟨U, N, E⟩
   rw [hv] at h
   try dsimp only at h ⊢
   by_cases hE : E = 0
   ·subst hE
    obtain ⟨u, t, rfl, rfl, rfl, hu⟩ := varint_dec hv
    refine ⟨unz u, t, by rw [wint_eq (unz_I64 hu), zig_unz], unz_I64 hu, ?_⟩
    rw [unz_bits hu, Int.toNat_natCast, ext_app]
    rfl
   ·rw [show (E != 0) = true by simpa using hE] at h
    have : rdErrM (⟨s, E, true⟩ : Rd) = 0 := h
    exact absurd this hE
  ·rw [int_bad h0] at h
   exact absurd h h0
theorem count_bad {r : Rd} (n : Int) (h : rdErrM r ≠ 0) : rdCountM r n = (0, r) := by
 unfold rdCountM
 rw [int_bad h, show (rdErrM r != 0) = true by simpa using h]
 rfl
theorem count_undo {n : Int} (hn : 0 ≤ n) (hn2 : n ≤ 1000000) : Undo (fun r => rdCountM r n) wintM (fun a => 0 ≤ a ∧ a ≤ n) := by
 refine ⟨fun a t ha => ?_, fun r h => ?_⟩
 ·unfold rdCountM
  try dsimp only
  rw [int_undo.enc a t ⟨by omega, by omega⟩]
  try dsimp only
  rw [err0, decide_eq_false (show ¬ a < 0 by omega), if_neg (by omega), decide_eq_false (show ¬ a > n by omega)]
  rfl
 ·by_cases h0 : rdErrM (rdIntM r).2 = 0
  ·obtain ⟨a, t, rfl, hI, hr⟩ := int_undo.dec r h0
   have hc : rdCountM (rd0 (wintM a ++ t)) n = (bif decide (a < 0) then (0, (⟨t, 4, true⟩ : Rd)) else (bif decide (a > n) then (0, (⟨t, 3, true⟩ : Rd)) else (a, rd0 t))) := by
    unfold rdCountM
    rw [hr, if_neg (by omega)]
    rfl
   try dsimp only at h ⊢
   rw [hc] at h ⊢
   by_cases h1 : a < 0
   ·rw [decide_eq_true h1] at h; cases h
   ·rw [decide_eq_false h1] at h ⊢
    by_cases h2 : a > n
    ·rw [decide_eq_true h2] at h; cases h
    ·rw [decide_eq_false h2] at h ⊢
     exact ⟨a, t, rfl, ⟨by omega, by omega⟩, rfl⟩
  ·try dsimp only at h
   have : (rdCountM r n).2 = (rdIntM r).2 := by
    unfold rdCountM
    rw [show (rdErrM (rdIntM r).2 != 0) = true by simpa using h0]
    rfl
   rw [this] at h
   exact absurd h h0
theorem text_bad {r : Rd} (n : Int) (h : rdErrM r ≠ 0) : rdTextM r n = (⟨#[]⟩, r) := by
 unfold rdTextM
 rw [count_bad n h, show (rdErrM r != 0) = true by simpa using h]
 rfl
theorem text_undo {n : Int} (hn : 0 ≤ n) (hn2 : n ≤ 1000000) : Undo (fun r => rdTextM r n) wtextM (fun s => (s.size : Int) ≤ n) := by
 have hC := count_undo hn hn2
 refine ⟨fun s t hs => ?_, fun r h => ?_⟩
 ·have := hC.enc (s.size : Int) (s ++ t) ⟨by omega, hs⟩
  try dsimp only at this ⊢
  unfold rdTextM wtextM
  rw [ByteArray.append_assoc, this]
  try dsimp only
  rw [err0, decide_eq_false (show ¬ (s.size : Int) > (((s ++ t).size : Nat) : Int) by rw [ByteArray.size_append]; omega), Int.toNat_natCast, ext_app, ext_app0]
  rfl
 ·try dsimp only at h ⊢
  by_cases h0 : rdErrM (rdCountM r n).2 = 0
  ·obtain ⟨a, t, rfl, ⟨ha1, ha2⟩, hr⟩ := hC.dec r h0
   try dsimp only at hr
   have hc : rdTextM (rd0 (wintM a ++ t)) n = (bif decide (a > (t.size : Int)) then (⟨#[]⟩, (⟨t, 5, true⟩ : Rd)) else (t.extract 0 a.toNat, rd0 (t.extract a.toNat t.size))) := by
    unfold rdTextM
    rw [hr]
    rfl
   rw [hc] at h ⊢
   by_cases h1 : a > (t.size : Int)
   ·rw [decide_eq_true h1] at h; cases h
   ·rw [decide_eq_false h1] at h ⊢
    have hsz : (t.extract 0 a.toNat).size = a.toNat := by
     rw [ByteArray.size_extract]
     omega
    refine ⟨t.extract 0 a.toNat, t.extract a.toNat t.size, ?_, by rw [hsz]; omega, rfl⟩
    unfold wtextM
    rw [ByteArray.append_assoc, ← ext_split t a.toNat (by omega), hsz, Int.toNat_of_nonneg ha1]
  ·have : (rdTextM r n).2 = (rdCountM r n).2 := by
    unfold rdTextM
    rw [show (rdErrM (rdCountM r n).2 != 0) = true by simpa using h0]
    rfl
   rw [this] at h
   exact absurd h h0
end Go.Proofs.Ytnnlaccdendkpaa
