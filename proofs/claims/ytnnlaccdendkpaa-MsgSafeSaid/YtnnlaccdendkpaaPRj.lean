/- Messages: sizes; the reference's encoding. Conditions: none. -/
import Derived.Test.YtnnlaccdendkpaaPRi
namespace Go.Proofs.Ytnnlaccdendkpaa
open Go Go.Av Go.Hh Go.Proofs
theorem wint_sz {n : Int} {j : Nat} (h : I64 n) (hz : zig n < 128 * 128 ^ j) : 1 ≤ (wintM n).size ∧ (wintM n).size ≤ j + 1 := by
 rw [wint_eq h, vbs_size]
 exact ⟨vbF_pos 9 _, vbF_lt j 9 _ hz⟩
theorem zig_le {n b : Int} (h1 : 0 ≤ n) (h2 : n ≤ b) : zig n ≤ (2 * b).toNat := by
 unfold zig
 rw [if_pos h1]
 omega
theorem wint1 {n : Int} (h1 : 0 ≤ n) (h2 : n ≤ 63) : (wintM n).size = 1 := by
 have := wint_sz (n := n) (j := 0) ⟨by omega, by omega⟩ (by have := zig_le h1 h2; omega)
 omega
theorem wint2 {n : Int} (h1 : 0 ≤ n) (h2 : n ≤ 512) : 1 ≤ (wintM n).size ∧ (wintM n).size ≤ 2 := wint_sz ⟨by omega, by omega⟩ (by have := zig_le h1 h2; omega)
theorem wint6 {n : Int} (h1 : -1099511627776 ≤ n) (h2 : n ≤ 1099511627776) : 1 ≤ (wintM n).size ∧ (wintM n).size ≤ 6 := wint_sz ⟨by omega, by omega⟩ (by
 have : zig n ≤ 2199023255552 := by unfold zig; split <;> omega
 have e : 128 * (128 : Nat) ^ 5 = 4398046511104 := by decide
 omega)
theorem text_sz {s : ByteArray} (h : s.size ≤ 60) : (wtextM s).size = 1 + s.size := by
 unfold wtextM
 rw [ByteArray.size_append, wint1 (by omega) (by omega)]
theorem put_sz {v : Val} (h : vCheckM v = 0) : (putM v).size ≤ 62 := by
 rw [put_eq h]
 rcases vcheck_cases h with ⟨h0, h1, h2⟩ | ⟨h0, h1, h2, h3⟩ | ⟨h0, h1, h2⟩
 ·rw [if_neg (by omega), if_neg (by omega), wint1 (by omega) (by omega)]
  omega
 ·rw [if_pos h0, ByteArray.size_append, wint1 (by omega) (by omega)]
  have := wint6 h2 h3
  omega
 ·rw [if_neg (by omega), if_pos h0, ByteArray.size_append, wint1 (by omega) (by omega), text_sz h2]
  omega
theorem item_sz {x : ItemV} {d : Int} (h : itemM x d = 0) : (encItem x).size ≤ 118 := by
 obtain ⟨i1, i2, i3, i4, i5, i6⟩ := item_spec h
 have h2 := valid_size i2
 have h3 := valid_size i3
 have h4 := put_sz i4
 have h5 := wint6 (n := x.version) (by omega) (by omega)
 unfold encItem
 rw [ByteArray.size_append, ByteArray.size_append, ByteArray.size_append, text_sz (by omega), text_sz (by omega)]
 omega
theorem items_sz {d : Int} : ∀ (l : List ItemV), (∀ x ∈ l, itemM x d = 0) → (encItems l).size ≤ 118 * l.length
 | [], _ => Nat.le_refl _
 | x :: l, h => by
  have h1 := item_sz (h x (by simp))
  have h2 := items_sz l fun y hy => h y (by simp [hy])
  unfold encItems
  rw [ByteArray.size_append, List.length_cons]
  omega
theorem nil_size : (⟨#[]⟩ : ByteArray).size = 0 := rfl
theorem encM_sz {m : MsgV} (h : mCheckM m = 0) : 4 ≤ (encM m).size ∧ (encM m).size ≤ 842 := by
 have hm := msg_ok h
 have k1 := hm.kind
 have a1 := wint1 (n := m.kind) (by omega) (by omega)
 have a2 := wint2 (n := m.dev) (by have := hm.dev; omega) (by have := hm.dev; omega)
 have a3 := wint6 (n := m.epoch) (by have := hm.epoch; omega) (by have := hm.epoch; omega)
 have a4 := wint6 (n := m.version) (by have := hm.version; omega) (by have := hm.version; omega)
 have a5 := wint1 (n := (m.items.length : Int)) (by omega) (by have := hm.len; omega)
 have a6 := items_sz (d := m.dev) m.items (fun x hx => by obtain ⟨j, hj⟩ := List.getElem?_of_mem hx; exact hm.item j x hj)
 have a7 := hm.len
 have a8 : (wtextM m.data).size ≤ 514 ∧ 1 ≤ (wtextM m.data).size := by
  unfold wtextM
  have := wint2 (n := (m.data.size : Int)) (by omega) (by have := hm.data; omega)
  rw [ByteArray.size_append]
  have := hm.data
  omega
 obtain ⟨b1, b2, _⟩ := ok_sizes h
 have a9 := text_sz (s := m.cluster) (by omega)
 have a10 := text_sz (s := m.name) (by omega)
 unfold encM encBody
 simp only [ByteArray.size_append]
 have hk : m.kind = 1 ∨ m.kind = 2 ∨ m.kind = 3 ∨ m.kind = 4 ∨ m.kind = 5 ∨ m.kind = 6 ∨ m.kind = 7 := by omega
 have e1 : hasItemsM m.kind = decide (m.kind = 1 ∨ m.kind = 3) := by unfold hasItemsM; rcases hk with h | h | h | h | h | h | h <;> rw [h] <;> rfl
 have e2 : hasEpochM m.kind = decide (m.kind ≠ 7) := by unfold hasEpochM; rcases hk with h | h | h | h | h | h | h <;> rw [h] <;> rfl
 have e3 : hasNamesM m.kind = decide (m.kind = 5) := by unfold hasNamesM; rcases hk with h | h | h | h | h | h | h <;> rw [h] <;> rfl
 have e4 : hasDataM m.kind = decide (m.kind = 6 ∨ m.kind = 7) := by unfold hasDataM; rcases hk with h | h | h | h | h | h | h <;> rw [h] <;> rfl
 cases hI : hasItemsM m.kind <;> cases hE : hasEpochM m.kind <;> cases hN : hasNamesM m.kind <;> cases hD : hasDataM m.kind <;> rw [e1] at hI <;> rw [e2] at hE <;> rw [e3] at hN <;> rw [e4] at hD <;>
  simp only [decide_eq_true_eq, decide_eq_false_iff_not] at hI hE hN hD <;> simp only [cond_true, cond_false, ByteArray.size_append, nil_size] <;> omega
theorem enc_size {m : MsgV} (h : ((encodeM m).2 != 0) = false) : (encodeM m).1.size ≤ 1000000 := by
 have h : (encodeM m).2 = 0 := bz h
 by_cases hc : mCheckM m = 0
 ·rw [encode_ok hc]
  have := (encM_sz hc).2
  show (encM m).size ≤ _
  omega
 ·rw [encode_bad hc]
  exact Nat.zero_le _
end Go.Proofs.Ytnnlaccdendkpaa
