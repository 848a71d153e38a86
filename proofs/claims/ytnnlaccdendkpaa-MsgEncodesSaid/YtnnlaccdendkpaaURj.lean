/- Messages: sizes; the reference's encoding. Conditions: none. -/
import Derived.Test.YtnnlaccdendkpaaURi
namespace Go.Proofs.Ytnnlaccdendkpaa
open Go Go.Av Go.Hh Go.Proofs
theorem rwint_wint {n : Int} (h : I64 n) : rwintM n = wintM n := by rw [rwint_eq h, wint_eq h]
theorem rwtext_wtext {s : ByteArray} (h : s.size ≤ 1000000) : rwtextM s = wtextM s := by
 unfold rwtextM wtextM
 rw [rwint_wint ⟨by omega, by omega⟩]
theorem rput_put {v : Val} (h : vCheckM v = 0) : rputM v = putM v := by
 have h1 : rputM_v1 v = v := by
  unfold rputM_v1
  rw [← vcheck_eq, show (vCheckM v != 0) = false by simpa using h]
  rfl
 rw [put_eq h]
 unfold rputM
 rw [h1]
 rcases vcheck_cases h with ⟨h0, h1, h2⟩ | ⟨h0, h1, h2, h3⟩ | ⟨h0, h1, h2⟩
 ·rw [if_neg (by omega), if_neg (by omega), h0]
  show rwintM 0 = wintM 0
  exact rwint_wint ⟨by omega, by omega⟩
 ·rw [if_pos h0, show (v.kind == 0) = false by simp; omega, show (v.kind == 4) = false by simp; omega, cond_false, cond_false, rwint_wint ⟨by omega, by omega⟩, rwint_wint ⟨by omega, by omega⟩]
 ·rw [if_neg (by omega), if_pos h0, show (v.kind == 0) = false by simp; omega, show (v.kind == 4) = true by simp [h0], cond_false, cond_true, rwint_wint ⟨by omega, by omega⟩, rwtext_wtext (by omega)]
theorem rloop {m : MsgV} (h : mCheckM m = 0) : ∀ (n k : Nat) (s : ByteArray), k + n = m.items.length → iterN (rencodeM_B1 m) k n s = s ++ encItems (m.items.drop k)
 | 0, k, s, hk => by
  rw [List.drop_of_length_le (by omega)]
  unfold iterN encItems
  rw [app_nil]
 | n + 1, k, s, hk => by
  obtain ⟨x, hx⟩ := getEx (l := m.items) (j := k) (by omega)
  have hd : m.items.drop k = x :: m.items.drop (k + 1) := by
   have hlt : k < m.items.length := by omega
   rw [List.drop_eq_getElem_cons hlt]
   congr 1
   rw [List.getElem?_eq_getElem hlt] at hx
   exact Option.some.inj hx
  obtain ⟨i1, i2, i3, i4, i5, i6⟩ := item_spec ((msg_ok h).item k x hx)
  have h2 := valid_size i2
  have h3 := valid_size i3
  have hb : rencodeM_B1 m k s = s ++ encItem x := by
   unfold rencodeM_B1 encItem
   rw [hx]
   dsimp only
   rw [rwtext_wtext (by omega), rwtext_wtext (by omega), rput_put i4, rwint_wint ⟨by omega, by omega⟩]
   simp only [ByteArray.append_assoc]
  unfold iterN
  rw [hb, rloop h n (k + 1) _ (by omega), hd, ByteArray.append_assoc]
  rfl
theorem renc_eq {m : MsgV} (h : mCheckM m = 0) : rencodeM_v4 m = encM m := by
 have hm := msg_ok h
 have hL : ∀ s : ByteArray, rencodeM_L1 m s = s ++ encItems m.items := fun s => by
  have := rloop h m.items.length 0 s (by omega)
  rw [List.drop_zero] at this
  exact this
 obtain ⟨b1, b2, _⟩ := ok_sizes h
 have k1 := hm.kind
 have k2 := hm.dev
 have k3 := hm.epoch
 have k4 := hm.version
 have k5 := hm.len
 have k6 := hm.data
 unfold rencodeM_v4 rencodeM_v3 rencodeM_v2 rencodeM_v1
 simp only [hL]
 rw [rwint_wint (n := m.kind) ⟨by omega, by omega⟩, rwint_wint (n := m.dev) ⟨by omega, by omega⟩, rwint_wint (n := m.epoch) ⟨by omega, by omega⟩, rwint_wint (n := m.version) ⟨by omega, by omega⟩, rwint_wint (n := (m.items.length : Int)) ⟨by omega, by omega⟩,
  rwtext_wtext (s := m.cluster) (by omega), rwtext_wtext (s := m.name) (by omega), rwtext_wtext (s := m.data) (by omega)]
 rw [show rhasDataM m.kind = hasDataM m.kind from rfl, show (m.kind == 5) = hasNamesM m.kind from rfl, show rhasItemsM m.kind = hasItemsM m.kind from rfl, show rhasEpochM m.kind = hasEpochM m.kind from rfl]
 unfold encM encBody
 cases hasEpochM m.kind <;> cases hasItemsM m.kind <;> cases hasNamesM m.kind <;> cases hasDataM m.kind <;> simp only [cond_true, cond_false, nil_app, app_nil, ByteArray.append_assoc]
theorem encode_eq (m : MsgV) : encodeM m = rencodeM m := by
 unfold rencodeM
 rw [← mcheck_eq]
 by_cases h : mCheckM m = 0
 ·rw [show (mCheckM m != 0) = false by simpa using h, encode_ok h, renc_eq h]
  rfl
 ·rw [show (mCheckM m != 0) = true by simpa using h, encode_bad h]
  rfl
end Go.Proofs.Ytnnlaccdendkpaa
