/- VendorParts: what the statement computes is true. Conditions: none. -/
import Derived.Test.YtmjimhkbehoomaaVB8
import Derived.Test.YtmjimhkbehoomaaVQm
namespace Go.Proofs.Ytmjimhkbehoomaa
open Go Go.Av Go.Hh Go.Proofs
theorem part_list (r : ByteArray) (k : Nat) {x y z : UInt8} {L : List UInt8} (h : r.data.toList.drop (3 * k) = x :: y :: z :: L) : (r.extract (3 * k) (3 * k + 3)).data.toList = [x, y, z] := by
  rw [ByteArray.data_extract, Array.toList_extract]
  simp only [List.extract]
  rw [show 3 * k + 3 - 3 * k = 3 from by omega, h]
  rfl
theorem lPartsM_true (c : Codec) (h : Home) (x : Raw23) : lPartsM c h x = true := by
  unfold lPartsM
  cases h1 : (largeM c h || decide (((x.bytes.size : Nat) : Int) > 60)) with
  | true => rfl
  | false =>
    simp only [Bool.or_eq_false_iff, decide_eq_false_iff_not] at h1
    have hz : x.bytes.size ≤ 60 := by omega
    simp only [Bool.false_or]
    have hdec := decode_is (c := c) (h := h) (n := x.dev) (s := x.bytes) (by omega)
    by_cases h0 : venCheckM c h = 0
    · rw [if_neg (by simpa using h0)] at hdec
      by_cases ho : ownsM h x.dev c.vendor = false
      · rw [if_pos ho] at hdec
        rw [hdec]
        rfl
      · rw [if_neg ho] at hdec
        by_cases h3 : x.bytes.size % 3 ≠ 0
        · rw [if_pos h3] at hdec
          rw [hdec]
          rfl
        · rw [if_neg h3] at hdec
          cases hd : decL c h x.dev x.bytes.data.toList [] with
          | inl e =>
            rw [hd] at hdec
            have hdec : decodeM c h x.dev x.bytes = e := hdec
            have e1 := decL_inl hd
            have e2 : (e.2 != 0) = true := by simpa using decL_err hd
            rw [hdec, e2, e1]
            rfl
          | inr o =>
            rw [hd] at hdec
            have hdec : decodeM c h x.dev x.bytes = (o, 0) := hdec
            obtain ⟨i1, _, i3⟩ := decL_at hd (by rw [bytes_len]; omega)
            rw [bytes_len] at i1
            simp only [List.length_nil, Nat.mul_zero, Nat.zero_add] at i1
            have hl : lPartsM_L1 c h x = none := by
              unfold lPartsM_L1
              rw [hdec]
              refine scan_none fun j hj => ?_
              dsimp only at hj
              obtain ⟨a, b, d, r, it, g1, g2, g3⟩ := i3 j (by rw [bytes_len]; omega)
              simp only [List.length_nil, Nat.zero_add] at g3
              unfold lPartsM_B1
              rw [hdec]
              rw [wrap64_of (3 * ((j : Nat) : Int)) (by omega) (by omega)]
              have q1 : (3 * ((j : Nat) : Int)).toNat = 3 * j := by omega
              have q2 : (3 * ((j : Nat) : Int) + 3).toNat = 3 * j + 3 := by omega
              rw [q1, q2]
              have hpl := part_list x.bytes j g1
              have hps : (x.bytes.extract (3 * j) (3 * j + 3)).size = 3 := by
                rw [← bytes_len, hpl]
                rfl
              have hpd : decodeM c h x.dev (x.bytes.extract (3 * j) (3 * j + 3)) = ([it], 0) := by
                rw [decode_is (by omega), if_neg (by simpa using h0), if_neg ho, if_neg (by rw [hps]; decide), hpl]
                simp only [decL, g2]
                rfl
              obtain ⟨d1, d2, d3, d4⟩ := dec3_spec g2
              rw [hpd]
              dsimp only
              rw [g3]
              simp [beqS_refl, d1, d2, d3]
            rw [hdec, hl]
            dsimp only
            rw [wrap64_of _ (by omega) (by omega)]
            have : (((x.bytes.size : Nat) : Int) != 3 * ((o.length : Nat) : Int)) = false := by simp; omega
            rw [this]
            rfl
    · rw [if_pos h0] at hdec
      have e : (venCheckM c h != 0) = true := by simpa using h0
      rw [hdec]
      dsimp only
      rw [e]
      rfl
end Go.Proofs.Ytmjimhkbehoomaa
