/- Hex; script.Print and the reference's. Conditions: none. -/
import Derived.Test.YtmkpmgfieagphaaGreatDoorPLf
namespace Go.Av
open Go Go.Hh
theorem nib : ∀ n : Nat, n < 256 → (0 ≤ arI .shr .u8 (n : Int) 4 ∧ arI .shr .u8 (n : Int) 4 < 16) ∧ (0 ≤ arI .and .u8 (n : Int) 15 ∧ arI .and .u8 (n : Int) 15 < 16) ∧ (0 ≤ arI .quo .u8 (n : Int) 16 ∧ arI .quo .u8 (n : Int) 16 < 16) ∧ (0 ≤ arI .rem .u8 (n : Int) 16 ∧ arI .rem .u8 (n : Int) 16 < 16) := by decide +kernel
def hxB (c : Int) : List Int := [byteI (⟨#[48, 49, 50, 51, 52, 53, 54, 55, 56, 57, 97, 98, 99, 100, 101, 102]⟩ : ByteArray) (arI .quo .u8 c 16), byteI (⟨#[48, 49, 50, 51, 52, 53, 54, 55, 56, 57, 97, 98, 99, 100, 101, 102]⟩ : ByteArray) (arI .rem .u8 c 16)]
def hxT : List Int := [48, 49, 50, 51, 52, 53, 54, 55, 56, 57, 97, 98, 99, 100, 101, 102]
theorem hx_tab : ∀ n : Nat, n < 256 → [nthL hxT (Int.toNat (arI .shr .u8 (n : Int) 4)), nthL hxT (Int.toNat (arI .and .u8 (n : Int) 15))] = hxB (n : Int) := by decide +kernel
def hexB (x : ByteArray) : ByteArray := bytesOf (apL (fun i => hxB (byteI x (i : Int))) 0 x.size)
theorem m45_eq (x : ByteArray) : m45 x = hexB x := by
 have : m45 x = Sum.elim (fun r => r) (fun c0 => bytesOf c0) (loopS (fun (i : Nat) (c1 : List Int) => (Step.nxt (List.append c1 [nthL hxT (Int.toNat (arI .shr .u8 (byteI x (i : Int)) 4)), nthL hxT (Int.toNat (arI .and .u8 (byteI x (i : Int)) 15))]) : Step ByteArray (List Int))) 0 x.size []) := by kernel_rfl
 rw [this, ap_loop (f := fun i => hxB (byteI x (i : Int))) x.size 0 [] (fun i v _ => ?_)]
 ·rfl
 ·obtain ⟨n, hn, h⟩ := byte_lt x (i : Int)
  rw [hn, hx_tab n h]
  rfl
theorem m54_eq (x : ByteArray) : m54 x = hexB x := by
 unfold m54 hexB
 dsimp only
 rw [Int.toNat_natCast]
 show Sum.elim _ _ (loopS (fun (i : Nat) (c1 : List Int) => (Step.nxt (c1 ++ hxB (byteI x (i : Int))) : Step ByteArray (List Int))) 0 x.size []) = _
 rw [ap_loop (f := fun i => hxB (byteI x (i : Int))) x.size 0 [] (fun i v _ => rfl)]
 rfl
theorem hex_size (x : ByteArray) : (hexB x).size ≤ 2 * x.size := by
 unfold hexB
 rw [bytesOf_size]
 exact apL_len (f := fun i => hxB (byteI x (i : Int))) (c := 2) x.size 0 (fun _ => Nat.le_refl _)
theorem ap_need {d l : List Int} {k : Nat} (hd : d.length ≤ 2 * k) (hl : l.length ≤ 2) (hk : k < 1000001) : (List.length d + List.length l ≤ maxLen ∧ (List.length d + List.length l) * 1 ≤ 140737488355328) ∧ (List.append d l).length ≤ 2 * (k + 1) := by
 refine ⟨⟨by unfold maxLen; omega, by omega⟩, ?_⟩
 show (d ++ l).length ≤ _
 rw [List.length_append]
 omega
theorem p45_ok {x : ByteArray} (h : x.size ≤ 1000000) : p45 x := by
 refine ⟨by decide, by decide, by decide, by decide, by decide, by decide, by decide, by decide, by decide, by decide, by decide, by decide, by decide, by decide, by decide, by decide, ?_, ⟨by omega, by omega⟩, fun i d => d.length ≤ 2 * i, Nat.zero_le _, fun i d hi hd => ?_⟩
 ·rw [wrap64_of _ (by omega) (by omega)]
  unfold maxLen
  omega
 ·have hi : i < x.size := by rwa [Int.toNat_natCast] at hi
  obtain ⟨n, hn, hb⟩ := byte_lt x (i : Int)
  obtain ⟨n1, n2, _, _⟩ := nib n hb
  rw [hn]
  exact ⟨n1, n1, n2, n2, ap_need hd (Nat.le_refl _) (by omega)⟩
theorem p54_ok {x : ByteArray} (h : x.size ≤ 1000000) : p54 x := by
 refine ⟨⟨by omega, by omega⟩, fun i d => d.length ≤ 2 * i, Nat.zero_le _, fun i d hi hd => ?_⟩
 have hi : i < x.size := by rwa [Int.toNat_natCast] at hi
 obtain ⟨n, hn, hb⟩ := byte_lt x (i : Int)
 obtain ⟨_, _, n1, n2⟩ := nib n hb
 rw [hn]
 exact ⟨n1, n2, ap_need hd (Nat.le_refl _) (by omega)⟩
theorem kind_cases (k : Int) : k = 2 ∨ k = 13 ∨ k = 3 ∨ k = 12 ∨ k = 8 ∨ k = 9 ∨ k = 14 ∨ k = 11 ∨ ((k == 2) = false ∧ (k == 13) = false ∧ (k == 3) = false ∧ (k == 12) = false ∧ (k == 8) = false ∧ (k == 9) = false ∧ (k == 14) = false ∧ (k == 11) = false) := by
 simp only [beq_eq_false_iff_ne]
 omega
theorem m47_m38 (a : ActV) : m47 a = m38 a := by
 obtain ⟨k, n, m, key, value, event, asked⟩ := a
 rcases kind_cases k with h | h | h | h | h | h | h | h | ⟨h1, h2, h3, h4, h5, h6, h7, h8⟩
 ·subst h; rfl
 ·subst h; rfl
 ·subst h; rfl
 ·subst h; rfl
 ·subst h; rfl
 ·subst h; rfl
 ·subst h; rfl
 ·subst h; rfl
 ·unfold m47 m38
  simp only [h1, h2, h3, h4, h5, h6, h7, h8, cond_false]
theorem bif_congr {α : Type} {c : Bool} {a b d : α} (h : b = d) : (bif c then a else b) = (bif c then a else d) := by rw [h]
def numB (lo n m : Int) : Bool := (((decide (n < lo)) || (decide (n > 1099511627776))) || (decide (m < 0))) || (decide (m > 1099511627776))
def devB (d : Int) : Bool := (decide (d < 1)) || (decide (d > 250))
theorem m49_eq (d : Int) (c n : ByteArray) : m49 d c n = bif devB d then (⟨#[]⟩, 2) else bif (!(valid c) || !(valid n)) then (⟨#[]⟩, 10) else (m44 d c n, 0) := by
 unfold m49
 simp only [m78_eq]
 refine bif_congr ?_
 cases valid c <;> cases valid n <;> rfl
noncomputable def wordB (k : Int) : ByteArray := List.getD m48 (Int.toNat (IntKind.wrap .i64 (k - 1))) (dT .str)
theorem word_in (k : Int) (h : ((decide (k < 1)) || (decide (k > 16))) = false) : nthL ([⟨#[116, 105, 99, 107]⟩, ⟨#[115, 101, 110, 115, 101]⟩, ⟨#[101, 118, 101, 110, 116]⟩, ⟨#[110, 111, 105, 115, 101]⟩, ⟨#[113, 117, 105, 101, 116]⟩, ⟨#[111, 102, 102]⟩, ⟨#[111, 110]⟩, ⟨#[99, 117, 116]⟩, ⟨#[106, 111, 105, 110]⟩, ⟨#[99, 114, 97, 115, 104]⟩, ⟨#[99, 108, 111, 99, 107]⟩, ⟨#[97, 115, 107]⟩, ⟨#[101, 110, 101, 114, 103, 121]⟩, ⟨#[109, 111, 118, 101]⟩, ⟨#[108, 111, 115, 101]⟩, ⟨#[116, 119, 105, 99, 101]⟩] : List ByteArray) (Int.toNat (IntKind.wrap .i64 (k - 1))) = wordB k := by
 simp only [Bool.or_eq_false_iff, decide_eq_false_iff_not] at h
 have : k = 1 ∨ k = 2 ∨ k = 3 ∨ k = 4 ∨ k = 5 ∨ k = 6 ∨ k = 7 ∨ k = 8 ∨ k = 9 ∨ k = 10 ∨ k = 11 ∨ k = 12 ∨ k = 13 ∨ k = 14 ∨ k = 15 ∨ k = 16 := by omega
 rcases this with rfl | rfl | rfl | rfl | rfl | rfl | rfl | rfl | rfl | rfl | rfl | rfl | rfl | rfl | rfl | rfl <;> rfl
def reqB (x : AskedV) (d : Req × Int) : Bool :=
 (d.2 != 0) || !(bif d.1.kind == x.request.kind then bif d.1.nonce == x.request.nonce then bif d.1.key.dev == x.request.key.dev then bif beqS d.1.key.cluster x.request.key.cluster then bif beqS d.1.key.attr x.request.key.attr then bif beqS d.1.name x.request.name then bif d.1.value.kind == x.request.value.kind then bif d.1.value.n == x.request.value.n then bif beqS d.1.value.s x.request.value.s then beqS d.1.text x.request.text else false else false else false else false else false else false else false else false else false)
noncomputable def askB (x : AskedV) : Bool := reqB x (decR (m28 x.request)) || !(seen x.token)
noncomputable def prRest (a : ActV) : ByteArray × Int :=
 bif (a.kind == 2) || (a.kind == 13) then
  bif numB 0 a.n a.m then (⟨#[]⟩, 2) else bif devB a.key.dev then (⟨#[]⟩, 2) else bif (!(valid a.key.cluster) || !(valid a.key.attr)) then (⟨#[]⟩, 10) else bif (m119 a.value != 0) then (⟨#[]⟩, m119 a.value) else bif (a.value.kind == 0) then (⟨#[]⟩, 4) else
   (ByteArray.append (ByteArray.append (ByteArray.append (ByteArray.append (wordB a.kind) ⟨#[32]⟩) (m44 a.key.dev a.key.cluster a.key.attr)) ⟨#[32]⟩) (m43 a.value), 0)
 else bif (a.kind == 3) then
  bif numB 0 a.n a.m then (⟨#[]⟩, 2) else bif devB a.event.dev then (⟨#[]⟩, 2) else bif (!(valid a.event.cluster) || !(valid a.event.name)) then (⟨#[]⟩, 10) else
   (ByteArray.append (ByteArray.append (wordB a.kind) ⟨#[32]⟩) (m44 a.event.dev a.event.cluster a.event.name), 0)
 else bif (a.kind == 12) then
  bif numB 0 a.n a.m then (⟨#[]⟩, 2) else bif askB a.asked then (⟨#[]⟩, 4) else
   (ByteArray.append (ByteArray.append (ByteArray.append (ByteArray.append (wordB a.kind) ⟨#[32]⟩) a.asked.token) ⟨#[32]⟩) (hexB (m28 a.asked.request)), 0)
 else bif (a.kind == 8) || (a.kind == 9) then
  bif numB 0 a.n a.m then (⟨#[]⟩, 2) else (ByteArray.append (ByteArray.append (ByteArray.append (ByteArray.append (wordB a.kind) ⟨#[32]⟩) (m46 a.n)) ⟨#[32]⟩) (m46 a.m), 0)
 else bif (a.kind == 14) then
  bif numB 0 a.n a.m then (⟨#[]⟩, 2) else (wordB a.kind, 0)
 else
  bif numB (bif (a.kind == 11) then -1 else 0) a.n a.m then (⟨#[]⟩, 2) else (ByteArray.append (ByteArray.append (wordB a.kind) ⟨#[32]⟩) (m46 a.n), 0)
noncomputable def prE (v4 x0 : ActV) : Bool := !(bif v4.kind == x0.kind then bif v4.n == x0.n then bif v4.m == x0.m then bif v4.key.dev == x0.key.dev then bif beqS v4.key.cluster x0.key.cluster then bif beqS v4.key.attr x0.key.attr then bif v4.value.kind == x0.value.kind then bif v4.value.n == x0.value.n then bif beqS v4.value.s x0.value.s then bif v4.event.dev == x0.event.dev then bif beqS v4.event.cluster x0.event.cluster then bif beqS v4.event.name x0.event.name then bif beqS v4.asked.token x0.asked.token then bif v4.asked.request.kind == x0.asked.request.kind then bif v4.asked.request.nonce == x0.asked.request.nonce then bif v4.asked.request.key.dev == x0.asked.request.key.dev then bif beqS v4.asked.request.key.cluster x0.asked.request.key.cluster then bif beqS v4.asked.request.key.attr x0.asked.request.key.attr then bif beqS v4.asked.request.name x0.asked.request.name then bif v4.asked.request.value.kind == x0.asked.request.value.kind then bif v4.asked.request.value.n == x0.asked.request.value.n then bif beqS v4.asked.request.value.s x0.asked.request.value.s then beqS v4.asked.request.text x0.asked.request.text else false else false else false else false else false else false else false else false else false else false else false else false else false else false else false else false else false else false else false else false else false else false)
noncomputable def prB (a : ActV) : ByteArray × Int :=
 bif ((decide (a.kind < 1)) || (decide (a.kind > 16))) then (⟨#[]⟩, 7) else bif prE (m38 a) a then (⟨#[]⟩, 1) else prRest a
structure OkAct (a : ActV) : Prop where
 k : I64 a.kind
 n : I64 a.n
 m : I64 a.m
 kd : I64 a.key.dev
 kc : Sz a.key.cluster
 ka : Sz a.key.attr
 v : OkV a.value
 ed : I64 a.event.dev
 ec : Sz a.event.cluster
 en : Sz a.event.name
 t : Sz a.asked.token
 q : OkQ a.asked.request
theorem m13_eq {a : ActV} (ha : OkAct a) : m13 a = prB a := by
  obtain ⟨k, n, m, key, value, event, asked⟩ := a
  unfold m13 prB
  cases hk : ((decide (k < 1)) || (decide (k > 16))) with
  | true => rfl
  | false =>
    simp only [cond_false]
    have hw := word_in k hk
    show (bif prE (m38 ⟨k, n, m, key, value, event, asked⟩) ⟨k, n, m, key, value, event, asked⟩ then _ else _) = _
    refine bif_congr ?_
    rw [hw]
    clear hk hw
    have ht : asked.token.size < 9223372036854775808 := by have := ha.t; unfold Sz at this; simp only at this; omega
    have hln : Ln (m28 asked.request) := m28_ln ha.q
    have kv : ∀ k, k = 2 ∨ k = 13 → m39 ⟨k, n, m, key, value, event, asked⟩ = (bif numB 0 n m then 2 else bif devB key.dev then 2 else 0) ∧
        m40 ⟨k, n, m, key, value, event, asked⟩ = (bif !(m118 key.cluster) then (bif (!(m118 key.cluster) || !false) then 10 else bif (m119 value != 0) then m119 value else bif (value.kind == 0) then 4 else 0) else (bif (!(m118 key.cluster) || !(m118 key.attr)) then 10 else bif (m119 value != 0) then m119 value else bif (value.kind == 0) then 4 else 0)) := by
      intro k hk
      rcases hk with rfl | rfl <;> exact ⟨rfl, rfl⟩
    rcases kind_cases k with h | h | h | h | h | h | h | h | ⟨h1, h2, h3, h4, h5, h6, h7, h8⟩
    · subst h
      rw [(kv 2 (.inl rfl)).1, (kv 2 (.inl rfl)).2, m118_eq, m118_eq]
      show (bif (bif numB 0 n m then (2 : Int) else bif devB key.dev then 2 else 0) != 0 then _ else _) = (bif numB 0 n m then _ else _)
      show _ = (bif numB 0 n m then _ else bif devB key.dev then _ else bif (!(valid key.cluster) || !(valid key.attr)) then _ else bif (m119 value != 0) then _ else bif (value.kind == 0) then _ else _)
      generalize m119 value = e
      cases numB 0 n m
      · cases devB key.dev
        · cases valid key.cluster
          · rfl
          · cases valid key.attr
            · rfl
            · cases h5 : (e != 0)
              · cases (value.kind == 0) <;> rfl
              · show (bif (e != 0) then _ else _) = _
                rw [h5]
                rfl
        · rfl
      · rfl
    · subst h
      rw [(kv 13 (.inr rfl)).1, (kv 13 (.inr rfl)).2, m118_eq, m118_eq]
      show (bif (bif numB 0 n m then (2 : Int) else bif devB key.dev then 2 else 0) != 0 then _ else _) = (bif numB 0 n m then _ else _)
      show _ = (bif numB 0 n m then _ else bif devB key.dev then _ else bif (!(valid key.cluster) || !(valid key.attr)) then _ else bif (m119 value != 0) then _ else bif (value.kind == 0) then _ else _)
      generalize m119 value = e
      cases numB 0 n m
      · cases devB key.dev
        · cases valid key.cluster
          · rfl
          · cases valid key.attr
            · rfl
            · cases h5 : (e != 0)
              · cases (value.kind == 0) <;> rfl
              · show (bif (e != 0) then _ else _) = _
                rw [h5]
                rfl
        · rfl
      · rfl
    · subst h
      have e39 : m39 ⟨3, n, m, key, value, event, asked⟩ = bif numB 0 n m then 2 else bif devB event.dev then 2 else 0 := rfl
      have e40 : m40 ⟨3, n, m, key, value, event, asked⟩ = bif !(m118 event.cluster) then (bif (!(m118 event.cluster) || !false) then 10 else 0) else (bif (!(m118 event.cluster) || !(m118 event.name)) then 10 else 0) := rfl
      rw [e39, e40, m118_eq, m118_eq]
      show (bif (bif numB 0 n m then (2 : Int) else bif devB event.dev then 2 else 0) != 0 then _ else _) = (bif numB 0 n m then _ else _)
      cases numB 0 n m <;> cases devB event.dev <;> cases valid event.cluster <;> cases valid event.name <;> rfl
    · subst h
      have e39 : m39 ⟨12, n, m, key, value, event, asked⟩ = bif numB 0 n m then 2 else 0 := by
        have : m39 ⟨12, n, m, key, value, event, asked⟩ = bif numB 0 n m then 2 else bif devB 1 then 2 else 0 := rfl
        rw [this]; rfl
      have e40 : m40 ⟨12, n, m, key, value, event, asked⟩ = bif reqB asked (m26 (m28 asked.request)) then (bif (reqB asked (m26 (m28 asked.request)) || !false) then 4 else 0) else (bif (reqB asked (m26 (m28 asked.request)) || !(m120 asked.token)) then 4 else 0) := by kernel_rfl
      rw [e39, e40, m26_eq hln, m120_eq ht]
      simp only [m45_eq]
      show (bif (bif numB 0 n m then (2 : Int) else 0) != 0 then _ else _) = (bif numB 0 n m then _ else bif (reqB asked (decR (m28 asked.request)) || !(seen asked.token)) then _ else _)
      cases numB 0 n m <;> cases reqB asked (decR (m28 asked.request)) <;> cases seen asked.token <;> rfl
    · subst h
      have e39 : m39 ⟨8, n, m, key, value, event, asked⟩ = bif numB 0 n m then 2 else 0 := by
        have : m39 ⟨8, n, m, key, value, event, asked⟩ = bif numB 0 n m then 2 else bif devB 1 then 2 else 0 := rfl
        rw [this]; rfl
      rw [e39]
      show (bif (bif numB 0 n m then (2 : Int) else 0) != 0 then _ else _) = (bif numB 0 n m then _ else _)
      cases numB 0 n m <;> rfl
    · subst h
      have e39 : m39 ⟨9, n, m, key, value, event, asked⟩ = bif numB 0 n m then 2 else 0 := by
        have : m39 ⟨9, n, m, key, value, event, asked⟩ = bif numB 0 n m then 2 else bif devB 1 then 2 else 0 := rfl
        rw [this]; rfl
      rw [e39]
      show (bif (bif numB 0 n m then (2 : Int) else 0) != 0 then _ else _) = (bif numB 0 n m then _ else _)
      cases numB 0 n m <;> rfl
    · subst h
      have e39 : m39 ⟨14, n, m, key, value, event, asked⟩ = bif numB 0 n m then 2 else 0 := by
        have : m39 ⟨14, n, m, key, value, event, asked⟩ = bif numB 0 n m then 2 else bif devB 1 then 2 else 0 := rfl
        rw [this]; rfl
      rw [e39]
      show (bif (bif numB 0 n m then (2 : Int) else 0) != 0 then _ else _) = (bif numB 0 n m then _ else _)
      cases numB 0 n m <;> rfl
    · subst h
      have e39 : m39 ⟨11, n, m, key, value, event, asked⟩ = bif numB (-1) n m then 2 else 0 := by
        have : m39 ⟨11, n, m, key, value, event, asked⟩ = bif numB (-1) n m then 2 else bif devB 1 then 2 else 0 := rfl
        rw [this]; rfl
      rw [e39]
      show (bif (bif numB (-1) n m then (2 : Int) else 0) != 0 then _ else _) = (bif numB (-1) n m then _ else _)
      cases numB (-1) n m <;> rfl
    · have e39 : m39 ⟨k, n, m, key, value, event, asked⟩ = bif numB 0 n m then 2 else 0 := by
        have : m39 ⟨k, n, m, key, value, event, asked⟩ = bif numB 0 n m then 2 else bif devB 1 then 2 else 0 := by
          unfold m39
          simp only [h1, h2, h3, h8, cond_false]
          rfl
        rw [this]; rfl
      have e40 : m40 ⟨k, n, m, key, value, event, asked⟩ = 0 := by
        unfold m40
        simp only [h1, h2, h3, h4, cond_false]
      rw [e39, e40]
      unfold prRest
      simp only [h1, h2, h3, h4, h5, h6, h7, h8, cond_false, Bool.or_self]
      cases numB 0 n m <;> rfl
end Go.Av
namespace Go.Av
open Go Go.Hh
theorem m14_eq {a : ActV} (ha : OkAct a) : m14 a = prB a := by
  obtain ⟨k, n, m, key, value, event, asked⟩ := a
  unfold m14 prB
  cases hk : ((decide (k < 1)) || (decide (k > 16))) with
  | true => rfl
  | false =>
    simp only [cond_false, m47_m38]
    show (bif prE (m38 ⟨k, n, m, key, value, event, asked⟩) ⟨k, n, m, key, value, event, asked⟩ then _ else _) = _
    refine bif_congr ?_
    clear hk
    have hln : Ln (m28 asked.request) := m28_ln ha.q
    have hq : m29 asked.request = m28 asked.request := m29_m28 ha.q
    have kv : ∀ W : ByteArray, (bif ((m49 key.dev key.cluster key.attr).2 != 0) then ((⟨#[]⟩ : ByteArray), (m49 key.dev key.cluster key.attr).2) else bif (m50 value != 0) then (⟨#[]⟩, m50 value) else bif (value.kind == 0) then (⟨#[]⟩, 4) else
        (ByteArray.append (ByteArray.append (ByteArray.append (ByteArray.append W ⟨#[32]⟩) (m49 key.dev key.cluster key.attr).1) ⟨#[32]⟩) (m51 value), 0)) =
        bif devB key.dev then (⟨#[]⟩, 2) else bif (!(valid key.cluster) || !(valid key.attr)) then (⟨#[]⟩, 10) else bif (m119 value != 0) then (⟨#[]⟩, m119 value) else bif (value.kind == 0) then (⟨#[]⟩, 4) else
        (ByteArray.append (ByteArray.append (ByteArray.append (ByteArray.append W ⟨#[32]⟩) (m44 key.dev key.cluster key.attr)) ⟨#[32]⟩) (m43 value), 0) := by
      intro W
      rw [m49_eq, m119_m50, m51_m43]
      cases devB key.dev
      · cases (!(valid key.cluster) || !(valid key.attr)) <;> rfl
      · rfl
    rcases kind_cases k with h | h | h | h | h | h | h | h | ⟨h1, h2, h3, h4, h5, h6, h7, h8⟩
    · subst h
      show (bif numB 0 n m then _ else _) = (bif numB 0 n m then _ else _)
      refine bif_congr ?_
      exact kv (wordB 2)
    · subst h
      show (bif numB 0 n m then _ else _) = (bif numB 0 n m then _ else _)
      refine bif_congr ?_
      exact kv (wordB 13)
    · subst h
      show (bif numB 0 n m then _ else _) = (bif numB 0 n m then _ else _)
      refine bif_congr ?_
      show (bif ((m49 event.dev event.cluster event.name).2 != 0) then ((⟨#[]⟩ : ByteArray), (m49 event.dev event.cluster event.name).2) else (ByteArray.append (ByteArray.append (wordB 3) ⟨#[32]⟩) (m49 event.dev event.cluster event.name).1, 0)) = _
      rw [m49_eq]
      cases devB event.dev
      · cases hv : (!(valid event.cluster) || !(valid event.name)) <;> rfl
      · rfl
    · subst h
      have e : ∀ W d h, (bif (((!(m53 asked.token)) || (d.2 != 0)) || !(bif d.1.kind == asked.request.kind then bif d.1.nonce == asked.request.nonce then bif d.1.key.dev == asked.request.key.dev then bif beqS d.1.key.cluster asked.request.key.cluster then bif beqS d.1.key.attr asked.request.key.attr then bif beqS d.1.name asked.request.name then bif d.1.value.kind == asked.request.value.kind then bif d.1.value.n == asked.request.value.n then bif beqS d.1.value.s asked.request.value.s then beqS d.1.text asked.request.text else false else false else false else false else false else false else false else false else false)) then ((⟨#[]⟩ : ByteArray), (4 : Int)) else (ByteArray.append (ByteArray.append (ByteArray.append (ByteArray.append W ⟨#[32]⟩) asked.token) ⟨#[32]⟩) h, 0)) =
          bif (reqB asked d || !(seen asked.token)) then ((⟨#[]⟩ : ByteArray), (4 : Int)) else (ByteArray.append (ByteArray.append (ByteArray.append (ByteArray.append W ⟨#[32]⟩) asked.token) ⟨#[32]⟩) h, 0) := by
        intro W d h
        unfold reqB
        rw [m53_eq]
        cases seen asked.token <;> cases (d.2 != 0) <;> simp only [Bool.not_true, Bool.not_false, Bool.true_or, Bool.false_or, Bool.or_true, Bool.or_false]
      show (bif numB 0 n m then _ else _) = (bif numB 0 n m then _ else _)
      refine bif_congr ?_
      refine Eq.trans (Eq.trans (by kernel_rfl) (e (wordB 12) (m27 (m29 asked.request)) (m54 (m29 asked.request)))) ?_
      rw [hq, m27_eq hln, m54_eq]
      rfl
    · subst h
      rfl
    · subst h
      rfl
    · subst h
      rfl
    · subst h
      rfl
    · unfold prRest
      simp only [h1, h2, h3, h4, h5, h6, h7, h8, cond_false, Bool.or_self]
      rfl
end Go.Av
namespace Go.Av
open Go Go.Hh
theorem rdCountM_le (r : Rd) (n : Int) (hn : 0 ≤ n) : (rdCountM r n).1 ≤ n := by
 unfold rdCountM
 cases hA : ((rdErrM ((rdIntM r).2)) != 0) with
 | true => exact hn
 | false =>
  simp only [cond_false]
  cases hB : decide ((rdIntM r).1 < 0) with
  | true => exact hn
  | false =>
   simp only [cond_false]
   cases hC : decide ((rdIntM r).1 > (if 0 > n then 0 else n)) with
   | true => exact hn
   | false =>
    have hC := of_decide_eq_false hC
    rw [if_neg (by omega)] at hC
    simp only [cond_false]
    omega
theorem rdText_sz (r : Rd) (n : Int) (hn : 0 ≤ n) : ((rdTextM r n).1.size : Int) ≤ n := by
 have h := rdCountM_le r n hn
 have h0 := rdCountM_nn r n
 unfold rdTextM
 simp only [cond_eq_ite]
 repeat' split
 ·exact hn
 ·exact hn
 ·show ((ByteArray.size (ByteArray.extract _ 0 _) : Nat) : Int) ≤ n
  rw [ByteArray.size_extract]
  omega
theorem askB_small {x : AskedV} {s : ByteArray} (h : reqB x (decR s) = false) : x.request.key.cluster.size ≤ 24 ∧ x.request.key.attr.size ≤ 24 ∧ x.request.name.size ≤ 24 ∧ x.request.text.size ≤ 20000 := by
 unfold reqB at h
 rw [Bool.or_eq_false_iff, Bool.not_eq_false'] at h
 obtain ⟨h1, h2⟩ := h
 have e : decR s = (dq s, 0) := by
  revert h1
  unfold decR
  split
  ·rename_i h
   intro h1
   exact absurd (by simpa using h1) h
  ·split
   ·intro h1
    exact absurd h1 (by decide)
   ·split
    ·intro h1
     exact absurd h1 (by decide)
    ·intro _
     rfl
 rw [e] at h2
 unfold dq at h2
 simp only [cond_eq_ite, Bool.if_false_right, Bool.and_eq_true, decide_eq_true_eq, beqS_iff, Bool.decide_eq_true] at h2
 obtain ⟨_, _, _, h3, h4, h5, _, _, _, h6⟩ := h2
 rw [← h3, ← h4, ← h5, ← h6]
 have t1 := rdText_sz (dq3 s).2 24 (by decide)
 have t2 := rdText_sz (dq4 s).2 24 (by decide)
 have t3 := rdText_sz (dq5 s).2 24 (by decide)
 have t4 : ((dq8 s).1.size : Int) ≤ 20000 := by
  unfold dq8
  exact rdText_sz _ _ (by decide)
 have t4 : (dq8 s).1.size ≤ 20000 := by omega
 refine ⟨Int.ofNat_le.1 t1, Int.ofNat_le.1 t2, Int.ofNat_le.1 t3, ?_⟩
 exact t4
theorem m94_sz {s : ByteArray} (h : Sz s) : (m94 s).size ≤ s.size + 10 := by
 rw [m94_eq h, app_size']
 have := vbs_sz (u := zig s.size)
 omega
theorem m28_small {x : AskedV} {s : ByteArray} (ha : OkQ x.request) (h : reqB x (decR s) = false) : (m28 x.request).size ≤ 1000000 := by
 obtain ⟨a1, a2, a3, a4⟩ := askB_small h
 obtain ⟨h1, h2, h3, _, _, _, h7, _⟩ := sizes_q ha
 have h7' : (m95 ⟨x.request.value.kind, x.request.value.n, x.request.value.s⟩).size ≤ 80 := h7
 have b1 := m94_sz ha.c
 have b2 := m94_sz ha.a
 have b3 := m94_sz ha.m
 have b4 := m94_sz ha.t
 unfold m28
 simp only [bsz]
 omega
theorem m44_size (d : Int) (c n : ByteArray) : (m44 d c n).size ≤ 23 + c.size + n.size := by
 unfold m44
 have := dec_sz d
 simp only [bsz]
 have : ByteArray.size (⟨#[46]⟩ : ByteArray) = 1 := rfl
 omega
theorem p44_ok {d : Int} {c n : ByteArray} (hd : I64 d) (hc : Sz c) (hn : Sz n) : p44 d c n := by
 have := dec_sz d
 have e : ByteArray.size (⟨#[46]⟩ : ByteArray) = 1 := rfl
 unfold Sz at hc hn
 refine ⟨hd.p, ?_, ?_, ?_, ?_⟩ <;> (try simp only [bsz]) <;> omega
theorem p49_ok {d : Int} {c n : ByteArray} (hd : I64 d) (hc : Sz c) (hn : Sz n) : p49 d c n := by
 have := dec_sz d
 have : (m52 d).size ≤ 21 := this
 have e : ByteArray.size (⟨#[46]⟩ : ByteArray) = 1 := rfl
 unfold Sz at hc hn
 unfold p49
 intro _
 refine ⟨p78_ok _, ?_⟩
 intro v7 j1
 have jj : ∀ b, j1 b := by
  intro b _ v11
  have : v11.size ≤ 21 := dec_sz d
  refine ⟨hd.p, ?_, ?_, ?_, ?_⟩ <;> (try simp only [bsz]) <;> omega
 exact ⟨fun _ => jj _, fun _ => ⟨p78_ok _, jj _⟩⟩
theorem m49_size {d : Int} {c n : ByteArray} (hc : Sz c) (hn : Sz n) : (m49 d c n).1.size ≤ 300000000000000 := by
 rw [m49_eq]
 have := m44_size d c n
 unfold Sz at hc hn
 simp only [cond_eq_ite]
 repeat' split
 ·exact Nat.zero_le _
 ·exact Nat.zero_le _
 ·show (m44 d c n).size ≤ _
  omega
theorem p40_ok {a : ActV} (ha : OkAct a) : p40 a := by
 unfold p40
 have ht : a.asked.token.size < 9223372036854775808 := by have := ha.t; unfold Sz at this; omega
 intro j1
 have jj : ∀ b, j1 b := by
  intro b
  refine ⟨fun _ => ⟨p118_ok _, fun _ => p118_ok _⟩, fun _ => ⟨fun _ => ⟨p118_ok _, fun _ => p118_ok _⟩, fun _ _ => ⟨p28_ok ha.q, p26_ok (m28_ln ha.q), fun _ => p120_ok ht⟩⟩⟩
 exact ⟨fun _ => jj _, fun _ => jj _⟩
theorem wordB_size (k : Int) : (wordB k).size ≤ 10 := by
 have : ∀ i : Nat, (List.getD m48 i (dT .str)).size ≤ 10 := by
  intro i
  rcases Nat.lt_or_ge i 16 with h | h
  ·revert i
   decide +kernel
  ·rw [List.getD_eq_getElem?_getD, List.getElem?_eq_none (by exact h)]
   exact Nat.zero_le _
 exact this _
theorem word_at {k : Int} (h : ((decide (k < 1)) || (decide (k > 16))) = false) : 0 ≤ IntKind.wrap .i64 (k - (1 : Int)) ∧ IntKind.wrap .i64 (k - (1 : Int)) < (16 : Int) := by
 simp only [Bool.or_eq_false_iff, decide_eq_false_iff_not] at h
 rw [wrap64_of _ (by omega) (by omega)]
 omega
theorem p13_ok {a : ActV} (ha : OkAct a) : p13 a := by
 obtain ⟨k, n, m, key, value, event, asked⟩ := a
 have e32 : ByteArray.size (⟨#[32]⟩ : ByteArray) = 1 := rfl
 have sn := dec_sz n
 have sm := dec_sz m
 have st : asked.token.size ≤ 140737488351232 := ha.t
 have s44 : (m44 key.dev key.cluster key.attr).size ≤ 300000000000000 := by
  have := m44_size key.dev key.cluster key.attr
  have h1 : key.cluster.size ≤ 140737488351232 := ha.kc
  have h2 : key.attr.size ≤ 140737488351232 := ha.ka
  omega
 have s44' : (m44 event.dev event.cluster event.name).size ≤ 300000000000000 := by
  have := m44_size event.dev event.cluster event.name
  have h1 : event.cluster.size ≤ 140737488351232 := ha.ec
  have h2 : event.name.size ≤ 140737488351232 := ha.en
  omega
 have s43 := m43_size value
 intro hk v4 v5 hv5 v6 hv6 v8
 refine ⟨p40_ok ha, ?_⟩
 intro hv8 v10 v11
 refine ⟨word_at hk, ?_⟩
 have sw : v11.size ≤ 10 := by
  have := wordB_size k
  rw [← word_in k hk] at this
  exact this
 intro j1
 have jj : ∀ b, j1 b := by
  intro b
  refine ⟨fun _ => ?_, fun _ => ⟨fun _ => ?_, fun _ => ⟨fun h12 => ?_, fun _ => ?_⟩⟩⟩
  ·refine ⟨?_, p44_ok ha.kd ha.kc ha.ka, ?_, ?_, p43_ok ha.v.n, ?_⟩
   ·omega
   ·have : (m42 ⟨key.dev, key.cluster, key.attr⟩).size ≤ 300000000000000 := s44
    simp only [bsz]; omega
   ·have : (m42 ⟨key.dev, key.cluster, key.attr⟩).size ≤ 300000000000000 := s44
    simp only [bsz]; omega
   ·have : (m42 ⟨key.dev, key.cluster, key.attr⟩).size ≤ 300000000000000 := s44
    have : (m43 ⟨value.kind, value.n, value.s⟩).size ≤ 250 := s43
    simp only [bsz]; omega
  ·refine ⟨?_, p44_ok ha.ed ha.ec ha.en, ?_⟩
   ·omega
   ·simp only [bsz]; omega
  ·have h12 : k = 12 := by simpa using h12
   subst h12
   have e40 : m40 ⟨12, n, m, key, value, event, asked⟩ = bif reqB asked (m26 (m28 asked.request)) then (bif (reqB asked (m26 (m28 asked.request)) || !false) then 4 else 0) else (bif (reqB asked (m26 (m28 asked.request)) || !(m120 asked.token)) then 4 else 0) := by kernel_rfl
   have hr : reqB asked (decR (m28 asked.request)) = false := by
    have hv8 : (m40 ⟨12, n, m, key, value, event, asked⟩ != 0) = false := hv8
    rw [e40, m26_eq (m28_ln ha.q)] at hv8
    revert hv8
    cases reqB asked (decR (m28 asked.request))
    ·exact fun _ => rfl
    ·intro h
     exact absurd h (show ¬ ((4 : Int) != 0) = false by decide)
   have hs : (m28 asked.request).size ≤ 1000000 := m28_small ha.q hr
   have hx : (m45 (m28 asked.request)).size ≤ 2 * (m28 asked.request).size := by rw [m45_eq]; exact hex_size _
   refine ⟨?_, ?_, ?_, p28_ok ha.q, p45_ok hs, ?_⟩
   ·omega
   ·simp only [bsz]; omega
   ·simp only [bsz]; omega
   ·show ByteArray.size _ + (m45 (m28 asked.request)).size ≤ _
    simp only [bsz]; omega
  ·intro j2
   have j3 : ∀ b, j2 b := by
    intro b
    refine ⟨fun _ => ⟨?_, ha.n.p, ?_, ?_, ha.m.p, ?_⟩, fun _ _ => ⟨?_, ha.n.p, ?_⟩⟩ <;> (try simp only [bsz]) <;> omega
   exact ⟨fun _ => j3 _, fun _ => j3 _⟩
 exact ⟨fun _ => jj _, fun _ => jj _⟩
set_option maxRecDepth 8000 in
theorem p14_ok {a : ActV} (ha : OkAct a) : p14 a := by
 obtain ⟨k, n, m, key, value, event, asked⟩ := a
 have e32 : ByteArray.size (⟨#[32]⟩ : ByteArray) = 1 := rfl
 have sn : (m52 n).size ≤ 21 := dec_sz n
 have sm : (m52 m).size ≤ 21 := dec_sz m
 have st : asked.token.size ≤ 140737488351232 := ha.t
 have s49 := m49_size (d := key.dev) ha.kc ha.ka
 have s49' := m49_size (d := event.dev) ha.ec ha.en
 have s51 : (m51 value).size ≤ 250 := by rw [m51_m43]; exact m43_size value
 have hln : Ln (m28 asked.request) := m28_ln ha.q
 have hq : m29 asked.request = m28 asked.request := m29_m28 ha.q
 intro hk v4 v5 hv5 v6 v7 v8
 have sw : v8.size ≤ 10 := wordB_size k
 refine ⟨word_at hk, ?_⟩
 intro j1
 have jj : ∀ b, j1 b := by
  intro b _ j2
  have j3 : ∀ b, j2 b := by
   intro b
   refine ⟨fun _ => ⟨p49_ok ha.kd ha.kc ha.ka, fun _ _ _ => ⟨?_, ?_, ?_, p51_ok ha.v.n, ?_⟩⟩, fun _ => ⟨fun _ => ⟨p49_ok ha.ed ha.ec ha.en, fun _ => ⟨?_, ?_⟩⟩, fun _ => ?_⟩⟩
   ·omega
   ·have : (m49 key.dev key.cluster key.attr).1.size ≤ 300000000000000 := s49
    simp only [bsz]; omega
   ·have : (m49 key.dev key.cluster key.attr).1.size ≤ 300000000000000 := s49
    simp only [bsz]; omega
   ·have : (m49 key.dev key.cluster key.attr).1.size ≤ 300000000000000 := s49
    have : (m51 ⟨value.kind, value.n, value.s⟩).size ≤ 250 := s51
    simp only [bsz]; omega
   ·omega
   ·have : (m49 event.dev event.cluster event.name).1.size ≤ 300000000000000 := s49'
    simp only [bsz]; omega
   ·intro j4
    have j5 : ∀ b, j4 b := by
     intro b
     refine ⟨fun _ => ⟨?_, ha.n.p, ?_, ?_, ha.m.p, ?_⟩, fun _ => ⟨fun _ => ?_, fun _ _ => ⟨?_, ha.n.p, ?_⟩⟩⟩
     ·omega
     ·simp only [bsz]; omega
     ·simp only [bsz]; omega
     ·simp only [bsz]; omega
     ·refine ⟨p29_ok ha.q, ?_, p53_ok _, ?_⟩
      ·show p27 (m29 asked.request)
       rw [hq]
       exact p27_ok hln
      ·intro v32 h
       rw [Bool.or_eq_false_iff, Bool.or_eq_false_iff] at h
       have hr : reqB asked (m27 (m29 asked.request)) = false := by
        rw [reqB, Bool.or_eq_false_iff]
        exact ⟨h.1.2, h.2⟩
       rw [hq, m27_eq hln] at hr
       have hh : (hexB (m28 asked.request)).size ≤ 2 * (m28 asked.request).size := hex_size _
       have hs : (m28 asked.request).size ≤ 1000000 := m28_small ha.q hr
       have hx : (m54 (m29 asked.request)).size ≤ 2 * (m28 asked.request).size := by rw [hq, m54_eq]; exact hex_size _
       refine ⟨?_, ?_, ?_, ?_, ?_⟩
       ·omega
       ·simp only [bsz]; omega
       ·simp only [bsz]; omega
       ·show p54 (m29 asked.request)
        rw [hq]
        exact p54_ok hs
       ·show ByteArray.size _ + (m54 (m29 asked.request)).size ≤ _
        simp only [bsz]; omega
     ·omega
     ·simp only [bsz]; omega
    exact ⟨fun _ => j5 _, fun _ => j5 _⟩
  exact ⟨fun _ => j3 _, fun _ => j3 _⟩
 exact ⟨fun _ => jj _, fun _ => jj _⟩
end Go.Av
namespace Go.Av
open Go Go.Hh
theorem wrapI64 (z : Int) : I64 (IntKind.wrap .i64 z) := by
 unfold I64
 simp [IntKind.wrap, IntKind.bits, IntKind.signed]
 omega
theorem ib_rng (x : ByteArray) (c : Int) : -1 ≤ m204 x c ∧ m204 x c < (x.size : Int) := by
 show -1 ≤ ibI x c ∧ ibI x c < (x.size : Int)
 unfold ibI
 split
 ·rename_i i h
  have := List.mem_of_find?_eq_some h
  rw [List.mem_range] at this
  omega
 ·omega
theorem elim_all {R A B : Type} {Q : B → Prop} {f : R → B} {g : A → B} {l : R ⊕ A} (h1 : ∀ r, l = .inl r → Q (f r)) (h2 : ∀ a, l = .inr a → Q (g a)) : Q (Sum.elim f g l) := by
 cases l with
 | inl r => exact h1 r rfl
 | inr a => exact h2 a rfl
theorem loopS_all {R A : Type} {b : Nat → A → Step R A} {Q : R → Prop} (h : ∀ i a r, b i a = .ret r → Q r) : ∀ (n k : Nat) (a : A) (r : R), loopS b k n a = .inl r → Q r := by
 intro n
 induction n with
 | zero => intro k a r h; simp [loopS] at h
 | succ n ih =>
  intro k a r hr
  unfold loopS at hr
  split at hr
  ·rename_i r' hb
   cases hr
   exact h _ _ _ hb
  ·cases hr
  ·exact ih _ _ _ hr
theorem loopW_all {R A : Type} {b : A → Step R A} {Q : R → Prop} (h : ∀ a r, b a = .ret r → Q r) : ∀ (n : Nat) (a : A) (r : R), loopW b n a = .inl r → Q r := by
 intro n
 induction n with
 | zero => intro a r h; simp [loopW] at h
 | succ n ih =>
  intro a r hr
  unfold loopW at hr
  split at hr
  ·rename_i r' hb
   cases hr
   exact h _ _ hb
  ·cases hr
  ·exact ih _ _ hr
theorem loopW_keep {R A : Type} {b : A → Step R A} {I : A → Prop} (h : ∀ a, I a → (∀ a', b a = .nxt a' → I a') ∧ ∀ a', b a = .brk a' → I a') : ∀ (n : Nat) (a a' : A), I a → loopW b n a = .inr a' → I a' := by
 intro n
 induction n with
 | zero => intro a a' hI h; simp [loopW] at h; exact h ▸ hI
 | succ n ih =>
  intro a a' hI hr
  unfold loopW at hr
  split at hr
  ·cases hr
  ·rename_i a2 hb
   cases hr
   exact (h a hI).2 _ hb
  ·rename_i a2 hb
   exact ih _ _ ((h a hI).1 _ hb) hr
theorem sat_rng (v : Int) : -1099511627776 ≤ m200 v ∧ m200 v ≤ 1099511627776 := by
 unfold m200
 have h : -1099511627776 ≤ F2.den (.mx .i64) v ((-1099511627776) : Int) := by
  show (-1099511627776 : Int) ≤ (if (-1099511627776 : Int) > v then (-1099511627776 : Int) else v)
  split <;> omega
 generalize F2.den (.mx .i64) v ((-1099511627776) : Int) = z at h ⊢
 have h : (-1099511627776 : Int) ≤ z := h
 show -1099511627776 ≤ (if (1099511627776 : Int) < z then (1099511627776 : Int) else z) ∧ (if (1099511627776 : Int) < z then (1099511627776 : Int) else z) ≤ 1099511627776
 split <;> omega
theorem sat_in {v : Int} (h : (m200 v != v) = false) : I64 v := by
 have e : m200 v = v := by simpa using h
 have := sat_rng v
 rw [e] at this
 unfold I64
 omega
theorem p129_ok (x : ByteArray) : p129 x := by
 unfold p129
 intro v3 h
 simp only [Bool.or_eq_false_iff, beq_eq_false_iff_ne, decide_eq_false_iff_not] at h
 obtain ⟨h1, h2⟩ := h
 have h2 : ¬ (x.size : Int) > 14 := h2
 refine ⟨⟨by show (0 : Int) ≤ (x.size : Int); omega, by show (x.size : Int) < _; omega⟩, ?_⟩
 intro k0
 refine ⟨fun _ d => I64 d, z64, ?_, ?_⟩
 ·intro i7 d0 _ hd j1 v9
  exact ⟨fun _ => wrapI64 _, fun _ _ => hd⟩
 ·intro c0 hc
  exact ⟨⟨Int.le_refl _, by omega⟩, fun _ _ => (wrapI64 _).p, fun _ _ => hc.p⟩
theorem m129_I64 (x : ByteArray) : I64 (m129 x).1 := by
 have fin : ∀ (v : Int) (w : ByteArray), I64 (bif ((m200 v != v) || cmS .neq w x) then ((0 : Int), false) else (v, true)).1 := by
  intro v w
  cases h : (m200 v != v)
  ·cases cmS .neq w x
   ·exact sat_in h
   ·exact z64
  ·exact z64
 have fin2 : ∀ v : Int, I64 (bif (m200 v != v) then (bif ((m200 v != v) || cmS .neq (⟨#[]⟩ : ByteArray) x) then ((0 : Int), false) else (v, true)) else (bif ((m200 v != v) || cmS .neq (m46 v) x) then ((0 : Int), false) else (v, true))).1 := by
  intro v
  cases h : (m200 v != v)
  ·have := fin v (m46 v)
   rw [h] at this
   exact this
  ·exact z64
 unfold m129
 dsimp only
 cases ((((ByteArray.size x : Int) == 0) || (decide ((ByteArray.size x : Int) > 14)))) with
 | true => exact z64
 | false =>
  simp only [cond_false]
  refine elim_all (Q := fun r : Int × Bool => I64 r.1) (fun r hr => ?_) (fun c _ => ?_)
  ·have : r = (0, false) := by
    refine loopS_all (Q := fun r => r = (0, false)) ?_ _ _ _ _ hr
    intro i a r h
    revert h
    cases ((decide ((byteI x (i : Int)) ≥ 48)) && (decide ((byteI x (i : Int)) ≤ 57)))
    ·simp only [cond_false]
     cases ((decide ((i : Int) > 0)) || ((byteI x (i : Int)) != 45))
     ·intro h; cases h
     ·intro h; cases h; rfl
    ·intro h; cases h
   rw [this]
   exact z64
  ·cases ((byteI x (0 : Int)) == 45)
   ·exact fin2 c
   ·exact fin2 _
theorem p200u (z : Int) : p194 (IntKind.wrap .u8 z) := by
 have : ∃ n : Nat, IntKind.wrap .u8 z = (n : Int) ∧ n < 256 := by
  refine ⟨(z % 256).toNat, ?_, by omega⟩
  simp [IntKind.wrap, IntKind.bits, IntKind.signed]
  omega
 obtain ⟨n, e, h⟩ := this
 rw [e]
 exact p194_ok h
theorem p194b (x : ByteArray) (z : Int) : p194 (byteI x z) := by
 obtain ⟨n, e, h⟩ := byte_lt x z
 rw [e]
 exact p194_ok h
theorem eql_size {x : ByteArray} (h : cmS .eql x (⟨#[]⟩ : ByteArray) = false) : 0 < (x.size : Int) := by
 have h : beqS x ⟨#[]⟩ = false := h
 rw [beqS_niff] at h
 rcases Nat.eq_zero_or_pos x.size with h0 | h0
 ·exact absurd (ByteArray.ext (Array.eq_empty_of_size_eq_zero h0)) h
 ·omega
theorem neq_size {x : ByteArray} (h : cmS .neq x (⟨#[]⟩ : ByteArray) = true) : 0 < (x.size : Int) := by
 refine eql_size ?_
 have h : (!beqS x ⟨#[]⟩) = true := h
 show beqS x ⟨#[]⟩ = false
 simpa using h
theorem p290_ok (x : ByteArray) : p290 x := by
 unfold p290
 intro v1
 refine ⟨fun h => ⟨Int.le_refl _, eql_size h⟩, ?_⟩
 intro h
 rw [Bool.or_eq_false_iff] at h
 have hs := eql_size h.1
 refine ⟨⟨Int.le_refl _, hs⟩, fun _ => ⟨⟨Int.le_refl _, hs⟩, ⟨by decide, by omega⟩, p194b _ _, fun _ => ⟨Int.le_refl _, hs⟩⟩, fun _ => ?_⟩
 intro v7 v8
 have h8 : v8 = true → (2 : Int) ≤ (x.size : Int) := fun h => of_decide_eq_true h
 refine ⟨fun h => ⟨by decide, by have := h8 h; omega⟩, ?_⟩
 intro v10
 refine ⟨fun h _ => ⟨by decide, by have := h8 h; omega⟩, fun h => ⟨by decide, by have := h8 (Bool.and_eq_true _ _ ▸ h).1; omega⟩, fun _ => ?_⟩
 intro v15
 have h15 : v15 = false → (4 : Int) ≤ (x.size : Int) := fun h => by
  have h : ¬ (x.size : Int) < 4 := of_decide_eq_false h
  omega
 refine ⟨fun h => ⟨by decide, by have := h15 h; omega⟩, ?_⟩
 intro v18
 have h18 : v18 = false → (4 : Int) ≤ (x.size : Int) := fun h => h15 ((Bool.or_eq_false_iff.1 h).1)
 refine ⟨fun h => ⟨by decide, by have := h18 h; omega⟩, ?_⟩
 intro j1
 have jj : ∀ z, j1 z := by
  intro z
  have h22 : (v18 || decide (z < 0)) = false → (4 : Int) ≤ (x.size : Int) := fun h => h18 ((Bool.or_eq_false_iff.1 h).1)
  refine ⟨fun h => ⟨by decide, by have := h22 h; omega⟩, fun _ h => ?_, fun _ h => ?_⟩
  ·have h4 := h22 ((Bool.or_eq_false_iff.1 h).1)
   exact ⟨⟨by decide, by omega⟩, ⟨by decide, by omega⟩, ⟨by decide, by omega⟩, p200u _⟩
  ·have h4 := h22 ((Bool.or_eq_false_iff.1 h).1)
   exact ⟨⟨by decide, by omega⟩, ⟨by decide, by omega⟩, ⟨by decide, by omega⟩, p200u _⟩
 exact ⟨fun _ => jj _, fun _ => jj _⟩
theorem m290_rng (x : ByteArray) : 0 ≤ (m290 x).2 ∧ (m290 x).2 ≤ (x.size : Int) := by
 have h0 : (0 : Int) ≤ 0 ∧ (0 : Int) ≤ (x.size : Int) := by omega
 unfold m290
 dsimp only
 cases h : ((cmS .eql x (⟨#[]⟩ : ByteArray)) || ((byteI x (0 : Int)) == 34)) with
 | true => exact h0
 | false =>
  rw [Bool.or_eq_false_iff] at h
  have hs := eql_size h.1
  simp only [cond_false]
  cases (byteI x (0 : Int) != 92) with
  | true =>
   simp only [cond_true]
   cases cmS .neq (m194 (byteI x 0)) (strV x none (some 1))
   ·exact ⟨show (0 : Int) ≤ 1 by decide, show (1 : Int) ≤ _ by omega⟩
   ·exact h0
  | false =>
   simp only [cond_false]
   cases h2 : ((decide ((x.size : Int) ≥ 2)) && (((byteI x (1 : Int)) == 34) || ((byteI x (1 : Int)) == 92))) with
   | true =>
    rw [Bool.and_eq_true] at h2
    have h2 : (x.size : Int) ≥ 2 := of_decide_eq_true h2.1
    exact ⟨show (0 : Int) ≤ 2 by decide, show (2 : Int) ≤ _ by omega⟩
   | false =>
    simp only [cond_false]
    cases h3 : ((decide ((x.size : Int) < 4)) || ((byteI x (1 : Int)) != 120)) with
    | true => exact h0
    | false =>
     rw [Bool.or_eq_false_iff] at h3
     have h3 : ¬ (x.size : Int) < 4 := of_decide_eq_false h3.1
     simp only [cond_eq_ite]
     repeat' split
     all_goals first
      | exact h0
      | exact ⟨show (0 : Int) ≤ 4 by decide, show (4 : Int) ≤ _ by omega⟩
theorem p254_ok {x : ByteArray} (hx : Sz x) : p254 x := by
 unfold Sz at hx
 unfold p254
 intro v1
 refine ⟨fun h => ⟨Int.le_refl _, eql_size h⟩, ?_⟩
 intro h
 rw [Bool.or_eq_false_iff] at h
 have hs := eql_size h.1
 refine ⟨fun d => 1 ≤ d.1 ∧ d.1 ≤ (x.size : Int) ∧ (d.2.1.length : Int) + 1 ≤ d.1, fun d => x.size + 1 - d.1.toNat, ⟨by decide, by show (1 : Int) ≤ _; omega, by decide⟩, ?_, ?_⟩
 ·show x.size + 1 - Int.toNat 1 < 18446744073709551616
  omega
 ·intro d0 hd
  obtain ⟨d1, d2, d3⟩ := hd
  intro v9
  refine ⟨fun h => ⟨by omega, of_decide_eq_true h⟩, fun h => ?_⟩
  have hlt : d0.1 < (x.size : Int) := of_decide_eq_true (Bool.and_eq_true _ _ ▸ h).1
  have hsz : (strV x (some d0.1) none).size = x.size - d0.1.toNat := by
   show (ByteArray.extract x d0.1.toNat x.size).size = _
   rw [ByteArray.size_extract]
   omega
  obtain ⟨r1, r2⟩ := m290_rng (strV x (some d0.1) none)
  rw [hsz] at r2
  refine ⟨⟨by omega, by omega⟩, p290_ok _, fun h0 => ?_⟩
  have h0 : (m290 (strV x (some d0.1) none)).2 ≠ 0 := by simpa using h0
  intro j1
  have w : IntKind.wrap .i64 (d0.1 + (m290 (strV x (some d0.1) none)).2) = d0.1 + (m290 (strV x (some d0.1) none)).2 := wrap64_of _ (by omega) (by omega)
  have jj : ∀ b, j1 b := by
   intro b
   have hl : ∀ v : Int, [v].length = 1 := fun _ => rfl
   have hl2 : ∀ v : Int, (List.append d0.2.1 [v]).length = d0.2.1.length + 1 := by
    intro v
    show (d0.2.1 ++ [v]).length = _
    rw [List.length_append]
    rfl
   refine ⟨⟨?_, ?_⟩, ⟨?_, ?_, ?_⟩, ?_⟩
   ·rw [hl]; unfold maxLen; omega
   ·rw [hl]; omega
   ·show 1 ≤ IntKind.wrap .i64 (d0.1 + (m290 (strV x (some d0.1) none)).2)
    rw [w]; omega
   ·show IntKind.wrap .i64 (d0.1 + (m290 (strV x (some d0.1) none)).2) ≤ _
    rw [w]; omega
   ·show ((List.append d0.2.1 [_]).length : Int) + 1 ≤ IntKind.wrap .i64 (d0.1 + (m290 (strV x (some d0.1) none)).2)
    rw [w, hl2]; omega
   ·show x.size + 1 - (IntKind.wrap .i64 (d0.1 + (m290 (strV x (some d0.1) none)).2)).toNat < x.size + 1 - d0.1.toNat
    rw [w]; omega
  exact ⟨fun _ => jj _, fun _ => jj _⟩
theorem p198_ok {x : ByteArray} (hx : Sz x) : p198 x := p254_ok hx
theorem m198_sz (x : ByteArray) : Sz (m198 x).1 := by
 unfold m198
 simp only [cond_eq_ite]
 repeat' split
 ·exact Nat.zero_le _
 ·exact Nat.zero_le _
 ·rename_i h
  simp only [decide_eq_true_eq] at h
  show ByteArray.size _ ≤ _
  dsimp only
  omega
theorem p126_ok {x : ByteArray} (hx : Sz x) : p126 x := by
 unfold p126
 intro j1
 have jj : ∀ a b c, I64 b → j1 a b c := fun a b c hb _ => p43_ok (v := ⟨a, b, c⟩) hb
 refine ⟨fun _ => jj _ _ _ z64, fun _ => ⟨fun _ => ⟨fun _ => jj _ _ _ (i64_small (by decide) (by decide)), fun _ => jj _ _ _ z64⟩, fun _ => ?_⟩⟩
 intro v5
 refine ⟨fun h => ⟨Int.le_refl _, neq_size h⟩, fun h => ?_, fun _ => ?_⟩
 ·have h := neq_size (Bool.and_eq_true _ _ ▸ h).1
  exact ⟨⟨by decide, by omega⟩, p129_ok _, jj _ _ _ (m129_I64 _)⟩
 ·intro v9
  exact ⟨fun h => ⟨Int.le_refl _, neq_size h⟩, fun _ => ⟨p198_ok hx, jj _ _ _ z64⟩, fun _ => ⟨p129_ok _, jj _ _ _ (m129_I64 _)⟩⟩
theorem m126_ok (x : ByteArray) : OkV (m126 x).1 := by
 have fin : ∀ (a b : Int) (c w : ByteArray), I64 a → I64 b → Sz c → OkV (bif (cmS .eql x (⟨#[]⟩ : ByteArray) || cmS .neq w x) then ((⟨0, 0, ⟨#[]⟩⟩ : Val), (4 : Int)) else (⟨a, b, c⟩, 0)).1 := by
  intro a b c w ha hb hc
  cases (cmS .eql x (⟨#[]⟩ : ByteArray) || cmS .neq w x)
  ·exact ⟨ha, hb, hc⟩
  ·exact ⟨z64, z64, Nat.zero_le _⟩
 have fin2 : ∀ (a b : Int) (c : ByteArray), I64 a → I64 b → Sz c → OkV (bif cmS .eql x (⟨#[]⟩ : ByteArray) then (bif (cmS .eql x (⟨#[]⟩ : ByteArray) || cmS .neq (⟨#[]⟩ : ByteArray) x) then ((⟨0, 0, ⟨#[]⟩⟩ : Val), (4 : Int)) else (⟨a, b, c⟩, 0)) else (bif (cmS .eql x (⟨#[]⟩ : ByteArray) || cmS .neq (m43 ⟨a, b, c⟩) x) then ((⟨0, 0, ⟨#[]⟩⟩ : Val), (4 : Int)) else (⟨a, b, c⟩, 0))).1 := by
  intro a b c ha hb hc
  have h1 := fin a b c (⟨#[]⟩ : ByteArray) ha hb hc
  have h2 := fin a b c (m43 ⟨a, b, c⟩) ha hb hc
  simp only [cond_eq_ite]
  simp only [cond_eq_ite] at h1 h2
  split
  ·exact h1
  ·exact h2
 have small : ∀ k : Int, -10 ≤ k → k ≤ 10 → I64 k := fun k h1 h2 => i64_small (by omega) (by omega)
 have e : Sz (⟨#[]⟩ : ByteArray) := Nat.zero_le _
 unfold m126
 dsimp only
 cases (cmS .eql x (⟨#[110, 111, 110, 101]⟩ : ByteArray))
 ·simp only [cond_false]
  cases ((cmS .eql x (⟨#[116, 114, 117, 101]⟩ : ByteArray)) || (cmS .eql x (⟨#[102, 97, 108, 115, 101]⟩ : ByteArray)))
  ·simp only [cond_false]
   cases ((cmS .neq x (⟨#[]⟩ : ByteArray)) && ((byteI x (0 : Int)) == 35))
   ·simp only [cond_false]
    cases ((cmS .neq x (⟨#[]⟩ : ByteArray)) && ((byteI x (0 : Int)) == 34))
    ·exact fin2 _ _ _ (small _ (by decide) (by decide)) (m129_I64 _) e
    ·exact fin2 _ _ _ (small _ (by decide) (by decide)) z64 (m198_sz _)
   ·exact fin2 _ _ _ (small _ (by decide) (by decide)) (m129_I64 _) e
  ·simp only [cond_true]
   cases (cmS .eql x (⟨#[116, 114, 117, 101]⟩ : ByteArray))
   ·exact fin2 _ _ _ (small _ (by decide) (by decide)) z64 e
   ·exact fin2 _ _ _ (small _ (by decide) (by decide)) (small _ (by decide) (by decide)) e
 ·exact fin2 _ _ _ z64 z64 e
end Go.Av
namespace Go.Av
open Go Go.Hh
theorem p199_ok (z : Int) : p199 z := by
 unfold p199
 decide
theorem len_app (l : List Int) (v : Int) : (List.append l [v]).length = l.length + 1 := by
 show (l ++ [v]).length = _
 rw [List.length_append]
 rfl
theorem p128_ok {x : ByteArray} (hx : Sz x) : p128 x := by
 unfold Sz at hx
 unfold p128
 intro v1 h
 have h : (arI .rem .i64 (x.size : Int) 2 != 0) = false := h
 have h : (x.size : Int).tmod 2 = 0 := by simpa [arI] using h
 have hq : arI .quo .i64 (x.size : Int) 2 = ((x.size / 2 : Nat) : Int) := by
  show IntKind.wrap .i64 ((x.size : Int).tdiv 2) = _
  rw [Int.tdiv_eq_ediv_of_nonneg (by omega), wrap64_of _ (by omega) (by omega)]
  omega
 refine ⟨?_, fun d => 0 ≤ d.1 ∧ d.1 ≤ (x.size : Int) ∧ d.1 % 2 = 0 ∧ (d.2.length : Int) ≤ d.1, fun d => x.size - d.1.toNat, ⟨Int.le_refl _, by show (0 : Int) ≤ _; omega, rfl, Int.le_refl _⟩, ?_, ?_⟩
 ·show 0 ≤ (0 : Int) ∧ (0 : Int) ≤ arI .quo .i64 (x.size : Int) 2 ∧ arI .quo .i64 (x.size : Int) 2 ≤ (maxLen : Int) ∧ (1 : Int) * arI .quo .i64 (x.size : Int) 2 ≤ 281474976710656
  rw [hq]
  unfold maxLen
  omega
 ·show x.size - Int.toNat 0 < 18446744073709551616
  omega
 ·intro d0 hd
  obtain ⟨d1, d2, d3, d4⟩ := hd
  intro hlt
  have hlt : d0.1 < (x.size : Int) := of_decide_eq_true hlt
  rw [Int.tmod_eq_emod_of_nonneg (by omega)] at h
  have w1 : IntKind.wrap .i64 (d0.1 + 1) = d0.1 + 1 := wrap64_of _ (by omega) (by omega)
  have w2 : IntKind.wrap .i64 (d0.1 + 2) = d0.1 + 2 := wrap64_of _ (by omega) (by omega)
  refine ⟨⟨d1, hlt⟩, ?_, p199_ok _, p199_ok _, fun _ => ⟨⟨?_, ?_⟩, ⟨?_, ?_, ?_, ?_⟩, ?_⟩⟩
  ·show 0 ≤ IntKind.wrap .i64 (d0.1 + 1) ∧ IntKind.wrap .i64 (d0.1 + 1) < _
   rw [w1]; omega
  ·show d0.2.length + 1 ≤ maxLen
   unfold maxLen; omega
  ·show (d0.2.length + 1) * 1 ≤ _
   omega
  ·show 0 ≤ IntKind.wrap .i64 (d0.1 + 2)
   rw [w2]; omega
  ·show IntKind.wrap .i64 (d0.1 + 2) ≤ _
   rw [w2]; omega
  ·show IntKind.wrap .i64 (d0.1 + 2) % 2 = 0
   rw [w2]; omega
  ·show ((List.append d0.2 [_]).length : Int) ≤ IntKind.wrap .i64 (d0.1 + 2)
   rw [w2, len_app]; omega
  ·show x.size - (IntKind.wrap .i64 (d0.1 + 2)).toNat < x.size - d0.1.toNat
   rw [w2]; omega
theorem m128_sz {x : ByteArray} (hx : Sz x) : (m128 x).1.size ≤ x.size + 1 := by
 unfold Sz at hx
 unfold m128
 dsimp only
 cases ((arI .rem .i64 (x.size : Int) (2 : Int)) != 0) with
 | true => exact Nat.zero_le _
 | false =>
  simp only [cond_false]
  refine elim_all (Q := fun r : ByteArray × Int => r.1.size ≤ x.size + 1) (fun r hr => ?_) (fun c hc => ?_)
  ·have : r = (⟨#[]⟩, 4) := by
    refine loopW_all (Q := fun r => r = (⟨#[]⟩, 4)) ?_ _ _ _ hr
    intro a r h
    revert h
    simp only [cond_eq_ite]
    repeat' split
    ·intro h; cases h; rfl
    ·intro h; cases h
    ·intro h; cases h
   rw [this]
   exact Nat.zero_le _
  ·have : 0 ≤ c.1 ∧ c.1 ≤ (x.size : Int) + 1 ∧ (c.2.length : Int) ≤ c.1 := by
    refine loopW_keep (I := fun c : Int × List Int => 0 ≤ c.1 ∧ c.1 ≤ (x.size : Int) + 1 ∧ (c.2.length : Int) ≤ c.1) ?_ _ _ _ ⟨Int.le_refl _, by show (0 : Int) ≤ _; omega, Int.le_refl _⟩ hc
    intro a ha
    obtain ⟨a1, a2, a3⟩ := ha
    cases hlt : decide (a.1 < (x.size : Int)) with
    | false =>
     simp only [cond_false]
     refine ⟨fun a' h => (by cases h), fun a' h => ?_⟩
     cases h
     exact ⟨a1, a2, a3⟩
    | true =>
     have hlt := of_decide_eq_true hlt
     simp only [cond_true]
     have w2 : IntKind.wrap .i64 (a.1 + 2) = a.1 + 2 := wrap64_of _ (by omega) (by omega)
     rw [w2]
     simp only [cond_eq_ite]
     split
     ·exact ⟨fun a' h => (by cases h), fun a' h => (by cases h)⟩
     ·refine ⟨fun a' h => ?_, fun a' h => (by cases h)⟩
      cases h
      refine ⟨?_, ?_, ?_⟩
      ·show 0 ≤ a.1 + 2; omega
      ·show a.1 + 2 ≤ _; omega
      ·show ((List.append a.2 [_]).length : Int) ≤ a.1 + 2
       rw [len_app]; omega
   show (bytesOf c.2).size ≤ _
   rw [bytesOf_size]
   omega
theorem Sz.str {x : ByteArray} (h : Sz x) {a b : Option Int} : Sz (strV x a b) := by
 unfold Sz at h ⊢
 have := str_sz (b := x) (a := a) (c := b)
 omega
theorem at_ok {x : ByteArray} (hx : Sz x) {v : Int} (h : (decide (v ≥ 0)) = true) (hv : v < (x.size : Int)) : sbNeed x.size none (some v) ∧ sbNeed x.size (some (IntKind.wrap .i64 (v + 1))) none := by
 unfold Sz at hx
 have h : v ≥ 0 := of_decide_eq_true h
 have w : IntKind.wrap .i64 (v + 1) = v + 1 := wrap64_of _ (by omega) (by omega)
 rw [w]
 exact ⟨⟨h, by omega⟩, ⟨by omega, by omega⟩⟩
theorem one_at {x : ByteArray} (c : UInt8) (h : cmS .eql (⟨#[c]⟩ : ByteArray) x = true) : (0 : Int) < (x.size : Int) := by
 have h : beqS (⟨#[c]⟩ : ByteArray) x = true := h
 rw [beqS_iff] at h
 rw [← h]
 exact Int.zero_lt_one
theorem p127_ok {x : ByteArray} (hx : Sz x) : p127 x := by
 unfold p127
 intro j2
 have jj : ∀ a b c, Sz b → j2 a b c := by
  intro a b c hb
  have k1 : ∀ v : Int, v < (b.size : Int) → ((decide (v ≥ 0)) = true → (sbNeed (ByteArray.size b) none (some v)) ∧ (sbNeed (ByteArray.size b) (some (IntKind.wrap .i64 (v + (1 : Int)))) none) ∧ p129 a) ∧ ((decide (v ≥ 0)) = false → p129 a) := by
   intro v hv
   exact ⟨fun h => ⟨(at_ok hb h hv).1, (at_ok hb h hv).2, p129_ok _⟩, fun _ => p129_ok _⟩
  exact ⟨fun h => k1 0 (one_at _ h), fun _ => ⟨by decide, k1 _ (ib_rng _ _).2⟩⟩
 have k1 : ∀ v : Int, v < (x.size : Int) → ((decide (v ≥ 0)) = true → (sbNeed (ByteArray.size x) none (some v)) ∧ (sbNeed (ByteArray.size x) (some (IntKind.wrap .i64 (v + (1 : Int)))) none) ∧ j2 (strV x none (some v)) (strV x (some (IntKind.wrap .i64 (v + (1 : Int)))) none) true) ∧ ((decide (v ≥ 0)) = false → j2 x (⟨#[]⟩ : ByteArray) false) := by
  intro v hv
  exact ⟨fun h => ⟨(at_ok hx h hv).1, (at_ok hx h hv).2, jj _ _ true hx.str⟩, fun _ => jj _ _ false (Nat.zero_le _)⟩
 exact ⟨fun h => k1 0 (one_at _ h), fun _ => ⟨by decide, k1 _ (ib_rng _ _).2⟩⟩
structure OkP (r : Int × ByteArray × ByteArray × Bool) : Prop where
 d : I64 r.1
 c : Sz r.2.1
 n : Sz r.2.2.1
noncomputable def cutK {α : Type} (c : UInt8) (x : ByteArray) (K : ByteArray → ByteArray → Bool → α) : α :=
 bif cmS .eql (⟨#[c]⟩ : ByteArray) x then (bif decide ((0 : Int) ≥ 0) then K (strV x none (some 0)) (strV x (some (IntKind.wrap .i64 ((0 : Int) + (1 : Int)))) none) true else K x (⟨#[]⟩ : ByteArray) false)
 else (bif decide (m204 x (byteI (⟨#[c]⟩ : ByteArray) 0) ≥ 0) then K (strV x none (some (m204 x (byteI (⟨#[c]⟩ : ByteArray) 0)))) (strV x (some (IntKind.wrap .i64 (m204 x (byteI (⟨#[c]⟩ : ByteArray) 0) + (1 : Int)))) none) true else K x (⟨#[]⟩ : ByteArray) false)
theorem cut_all {α : Type} {Q : α → Prop} {c : UInt8} {x : ByteArray} {K : ByteArray → ByteArray → Bool → α} (hx : Sz x) (h : ∀ a b f, Sz a → Sz b → Q (K a b f)) : Q (cutK c x K) := by
 have e : Sz (⟨#[]⟩ : ByteArray) := Nat.zero_le _
 unfold cutK
 simp only [cond_eq_ite]
 repeat' split
 ·exact h _ _ _ hx.str hx.str
 ·exact h _ _ _ hx e
 ·exact h _ _ _ hx.str hx.str
 ·exact h _ _ _ hx e
theorem m127_eq (x : ByteArray) : m127 x = cutK 46 x fun a r f => cutK 46 r fun b c g => ((m129 a).1, b, c, ((f && g) && (m129 a).2)) := by
 kernel_rfl
theorem m127_ok {x : ByteArray} (hx : Sz x) : OkP (m127 x) := by
 rw [m127_eq]
 exact cut_all (Q := OkP) hx fun a r f _ hr => cut_all (Q := OkP) hr fun b c g hb hc => ⟨m129_I64 _, hb, hc⟩
theorem int_I64 (r : Rd) : I64 (rdIntM r).1 := by
 unfold rdIntM
 simp only [cond_eq_ite]
 repeat' split
 ·exact z64
 ·exact z64
 ·exact wrapI64 _
theorem text_Sz (r : Rd) (n : Int) (h : 0 ≤ n) (hn : n ≤ 20000) : Sz (rdTextM r n).1 := by
 have := rdText_sz r n h
 unfold Sz
 omega
theorem take_ok (r : Rd) : OkV (takeM r).1 := by
 have e : Sz (⟨#[]⟩ : ByteArray) := Nat.zero_le _
 have h1 : OkV (takeM_v1 r) := by
  unfold takeM_v1
  simp only [cond_eq_ite]
  repeat' split
  ·exact ⟨int_I64 _, int_I64 _, e⟩
  ·exact ⟨int_I64 _, z64, text_Sz _ _ (by decide) (by decide)⟩
  ·exact ⟨int_I64 _, z64, e⟩
 unfold takeM
 simp only [cond_eq_ite]
 split
 ·exact ⟨z64, z64, e⟩
 ·exact h1
theorem dec_ok (s : ByteArray) : OkQ (decR s).1 := by
 have e : Sz (⟨#[]⟩ : ByteArray) := Nat.zero_le _
 have hz : OkQ rz := ⟨z64, z64, z64, e, e, e, ⟨z64, z64, e⟩, e⟩
 have h8 : Sz (dq8 s).1 := by
  unfold dq8
  exact text_Sz _ _ (by decide) (by decide)
 have hd : OkQ (dq s) := by
  unfold dq
  generalize dq8 s = d8 at h8 ⊢
  exact ⟨int_I64 _, int_I64 _, int_I64 _, text_Sz _ _ (by decide) (by decide), text_Sz _ _ (by decide) (by decide), text_Sz _ _ (by decide) (by decide), take_ok _, h8⟩
 unfold decR
 repeat' split
 all_goals first | exact hz | exact hd
theorem ln_unhex {x : ByteArray} (hx : Sz x) : Ln (m128 x).1 := by
 have := m128_sz hx
 unfold Sz at hx
 unfold Ln
 omega
set_option maxRecDepth 4000 in
theorem p56_ok {k : Int} {x : ByteArray} (hx : Sz x) : p56 k x := by
  unfold p56
  intro j2
  have jj : ∀ a b, Sz a → Sz b → j2 a b := by
    intro a b ha hb
    have k1 : ∀ v : Bool, (v = true → (p126 b) ∧ p127 a) ∧ (v = false → ((k == 3) = true → p127 x) ∧ ((k == 3) = false → ((k == 12) = true → (p128 b) ∧ p26 (m128 b).1) ∧ ((k == 12) = false → 
        ((k == 8) = true → ((k == 8) = true → (p129 a) ∧ p129 b) ∧ ((k == 8) = false → (k == 14) = false → p129 x)) ∧ ((k == 8) = false → ((k == 9) = true → (p129 a) ∧ p129 b) ∧ ((k == 9) = false → (k == 14) = false → p129 x))))) := by
      intro v
      exact ⟨fun _ => ⟨p126_ok hb, p127_ok ha⟩, fun _ => ⟨fun _ => p127_ok hx, fun _ => ⟨fun _ => ⟨p128_ok hb, p26_ok (ln_unhex hb)⟩, fun _ => ⟨fun _ => ⟨fun _ => ⟨p129_ok _, p129_ok _⟩, fun _ _ => p129_ok _⟩, fun _ => ⟨fun _ => ⟨p129_ok _, p129_ok _⟩, fun _ _ => p129_ok _⟩⟩⟩⟩⟩
    exact ⟨fun _ => k1 _, fun _ => k1 _⟩
  have k1 : ∀ v : Int, v < (x.size : Int) → ((decide (v ≥ 0)) = true → (sbNeed (ByteArray.size x) none (some v)) ∧ (sbNeed (ByteArray.size x) (some (IntKind.wrap .i64 (v + (1 : Int)))) none) ∧ j2 (strV x none (some v)) (strV x (some (IntKind.wrap .i64 (v + (1 : Int)))) none)) ∧ ((decide (v ≥ 0)) = false → j2 x (⟨#[]⟩ : ByteArray)) := by
    intro v hv
    exact ⟨fun h => ⟨(at_ok hx h hv).1, (at_ok hx h hv).2, jj _ _ hx.str hx.str⟩, fun _ => jj _ _ hx (Nat.zero_le _)⟩
  exact ⟨fun h => k1 0 (one_at _ h), fun _ => ⟨by decide, k1 _ (ib_rng _ _).2⟩⟩
noncomputable def readK (k : Int) (x a b : ByteArray) : ActV × Bool :=
 bif ((k == 2) || (k == 13)) then ((⟨k, 0, 0, ⟨(m127 a).1, (m127 a).2.1, (m127 a).2.2.1⟩, ⟨(m126 b).1.kind, (m126 b).1.n, (m126 b).1.s⟩, ⟨0, ⟨#[]⟩, ⟨#[]⟩⟩, ⟨⟨#[]⟩, ⟨0, 0, ⟨0, ⟨#[]⟩, ⟨#[]⟩⟩, ⟨#[]⟩, ⟨0, 0, ⟨#[]⟩⟩, ⟨#[]⟩⟩⟩⟩ : ActV), ((m127 a).2.2.2 && ((m126 b).2 == 0)))
 else bif (k == 3) then ((⟨k, 0, 0, ⟨0, ⟨#[]⟩, ⟨#[]⟩⟩, ⟨0, 0, ⟨#[]⟩⟩, ⟨(m127 x).1, (m127 x).2.1, (m127 x).2.2.1⟩, ⟨⟨#[]⟩, ⟨0, 0, ⟨0, ⟨#[]⟩, ⟨#[]⟩⟩, ⟨#[]⟩, ⟨0, 0, ⟨#[]⟩⟩, ⟨#[]⟩⟩⟩⟩ : ActV), (m127 x).2.2.2)
 else bif (k == 12) then ((⟨k, 0, 0, ⟨0, ⟨#[]⟩, ⟨#[]⟩⟩, ⟨0, 0, ⟨#[]⟩⟩, ⟨0, ⟨#[]⟩, ⟨#[]⟩⟩, ⟨a, (m26 (m128 b).1).1⟩⟩ : ActV), (((m128 b).2 == 0) && ((m26 (m128 b).1).2 == 0)))
 else bif ((k == 8) || (k == 9)) then ((⟨k, (m129 a).1, (m129 b).1, ⟨0, ⟨#[]⟩, ⟨#[]⟩⟩, ⟨0, 0, ⟨#[]⟩⟩, ⟨0, ⟨#[]⟩, ⟨#[]⟩⟩, ⟨⟨#[]⟩, ⟨0, 0, ⟨0, ⟨#[]⟩, ⟨#[]⟩⟩, ⟨#[]⟩, ⟨0, 0, ⟨#[]⟩⟩, ⟨#[]⟩⟩⟩⟩ : ActV), ((m129 a).2 && (m129 b).2))
 else bif (k == 14) then ((⟨k, 0, 0, ⟨0, ⟨#[]⟩, ⟨#[]⟩⟩, ⟨0, 0, ⟨#[]⟩⟩, ⟨0, ⟨#[]⟩, ⟨#[]⟩⟩, ⟨⟨#[]⟩, ⟨0, 0, ⟨0, ⟨#[]⟩, ⟨#[]⟩⟩, ⟨#[]⟩, ⟨0, 0, ⟨#[]⟩⟩, ⟨#[]⟩⟩⟩⟩ : ActV), true)
 else ((⟨k, (m129 x).1, 0, ⟨0, ⟨#[]⟩, ⟨#[]⟩⟩, ⟨0, 0, ⟨#[]⟩⟩, ⟨0, ⟨#[]⟩, ⟨#[]⟩⟩, ⟨⟨#[]⟩, ⟨0, 0, ⟨0, ⟨#[]⟩, ⟨#[]⟩⟩, ⟨#[]⟩, ⟨0, 0, ⟨#[]⟩⟩, ⟨#[]⟩⟩⟩⟩ : ActV), (m129 x).2)
theorem readK_ok {k : Int} {x a b : ByteArray} (hk : I64 k) (hx : Sz x) (ha : Sz a) (hb : Sz b) : OkAct (readK k x a b).1 := by
 have e : Sz (⟨#[]⟩ : ByteArray) := Nat.zero_le _
 have oq : OkQ ⟨0, 0, ⟨0, ⟨#[]⟩, ⟨#[]⟩⟩, ⟨#[]⟩, ⟨0, 0, ⟨#[]⟩⟩, ⟨#[]⟩⟩ := ⟨z64, z64, z64, e, e, e, ⟨z64, z64, e⟩, e⟩
 have pa := m127_ok ha
 have px := m127_ok hx
 have vb := m126_ok b
 have na := m129_I64 a
 have nb := m129_I64 b
 have nx := m129_I64 x
 have q : OkQ (m26 (m128 b).1).1 := by
  rw [m26_eq (ln_unhex hb)]
  exact dec_ok _
 unfold readK
 generalize m26 (m128 b).1 = Q at q ⊢
 generalize m127 a = A at pa ⊢
 generalize m127 x = X at px ⊢
 generalize m126 b = V at vb ⊢
 generalize m129 a = Na at na ⊢
 generalize m129 b = Nb at nb ⊢
 generalize m129 x = Nx at nx ⊢
 generalize m128 b = H
 cases ((k == 2) || (k == 13))
 ·cases (k == 3)
  ·cases (k == 12)
   ·cases ((k == 8) || (k == 9))
    ·cases (k == 14)
     ·exact ⟨hk, nx, z64, z64, e, e, ⟨z64, z64, e⟩, z64, e, e, e, oq⟩
     ·exact ⟨hk, z64, z64, z64, e, e, ⟨z64, z64, e⟩, z64, e, e, e, oq⟩
    ·exact ⟨hk, na, nb, z64, e, e, ⟨z64, z64, e⟩, z64, e, e, e, oq⟩
   ·exact ⟨hk, z64, z64, z64, e, e, ⟨z64, z64, e⟩, z64, e, e, ha, q⟩
  ·exact ⟨hk, z64, z64, z64, e, e, ⟨z64, z64, e⟩, px.d, px.c, px.n, e, oq⟩
 ·exact ⟨hk, z64, z64, pa.d, pa.c, pa.n, ⟨vb.k, vb.n, vb.s⟩, z64, e, e, e, oq⟩
theorem m56_eq (k : Int) (x : ByteArray) : m56 k x = cutK 32 x fun a b _ => readK k x a b := by
 unfold m56 cutK readK
 dsimp only
 generalize m126 = f1
 generalize m127 = f2
 generalize m128 = f3
 generalize m129 = f4
 generalize m26 = f5
 cases cmS .eql (⟨#[32]⟩ : ByteArray) x
 ·simp only [cond_false]
  cases decide (m204 x (byteI (⟨#[32]⟩ : ByteArray) 0) ≥ 0)
  ·simp only [cond_false]
   cases (k == 2)
   ·cases (k == 13)
    ·cases (k == 3)
     ·cases (k == 12)
      ·cases (k == 8)
       ·cases (k == 9)
        ·cases (k == 14) <;> rfl
        ·rfl
       ·rfl
      ·rfl
     ·rfl
    ·rfl
   ·rfl
  ·simp only [cond_true]
   cases (k == 2)
   ·cases (k == 13)
    ·cases (k == 3)
     ·cases (k == 12)
      ·cases (k == 8)
       ·cases (k == 9)
        ·cases (k == 14) <;> rfl
        ·rfl
       ·rfl
      ·rfl
     ·rfl
    ·rfl
   ·rfl
 ·simp only [cond_true]
  cases decide ((0 : Int) ≥ 0)
  ·simp only [cond_false]
   cases (k == 2)
   ·cases (k == 13)
    ·cases (k == 3)
     ·cases (k == 12)
      ·cases (k == 8)
       ·cases (k == 9)
        ·cases (k == 14) <;> rfl
        ·rfl
       ·rfl
      ·rfl
     ·rfl
    ·rfl
   ·rfl
  ·simp only [cond_true]
   cases (k == 2)
   ·cases (k == 13)
    ·cases (k == 3)
     ·cases (k == 12)
      ·cases (k == 8)
       ·cases (k == 9)
        ·cases (k == 14) <;> rfl
        ·rfl
       ·rfl
      ·rfl
     ·rfl
    ·rfl
   ·rfl
theorem m56_ok {k : Int} {x : ByteArray} (hk : I64 k) (hx : Sz x) : OkAct (m56 k x).1 := by
 rw [m56_eq]
 exact cut_all (Q := fun r : ActV × Bool => OkAct r.1) hx fun a b _ ha hb => readK_ok hk hx ha hb
end Go.Av
namespace Go.Av
open Go Go.Hh
theorem p16_ok {x : ByteArray} (hx : Sz x) : p16 x := by
 unfold p16
 intro j2
 have jj : ∀ a b, Sz b → j2 a b := by
  intro a b hb
  exact ⟨fun _ _ => True, trivial, fun i d _ _ => ⟨fun _ => trivial, fun _ => ⟨p56_ok hb, p13_ok (m56_ok (wrapI64 _) hb), fun _ => trivial⟩⟩⟩
 have k1 : ∀ v : Int, v < (x.size : Int) → ((decide (v ≥ 0)) = true → (sbNeed (ByteArray.size x) none (some v)) ∧ (sbNeed (ByteArray.size x) (some (IntKind.wrap .i64 (v + (1 : Int)))) none) ∧ j2 (strV x none (some v)) (strV x (some (IntKind.wrap .i64 (v + (1 : Int)))) none)) ∧ ((decide (v ≥ 0)) = false → j2 x (⟨#[]⟩ : ByteArray)) := by
  intro v hv
  exact ⟨fun h => ⟨(at_ok hx h hv).1, (at_ok hx h hv).2, jj _ _ hx.str⟩, fun _ => jj _ _ (Nat.zero_le _)⟩
 exact ⟨fun h => k1 0 (one_at _ h), fun _ => ⟨by decide, k1 _ (ib_rng _ _).2⟩⟩
theorem str_len {x : ByteArray} {v : Int} : ((strV x (some v) none).size : Int) = (x.size - v.toNat : Nat) := by
 show ((ByteArray.extract x v.toNat x.size).size : Int) = _
 rw [ByteArray.size_extract]
 omega
def leftR (n : Nat) (d : Int × ByteArray × Bool × List ActV × Bool × Int) : Nat := bif d.2.2.1 then (bif d.2.2.2.2.1 then 1 else 2 + (n - d.2.2.2.2.2.toNat)) else 0
structure InvR (x : ByteArray) (d : Int × ByteArray × Bool × List ActV × Bool × Int) : Prop where
 line : Sz d.2.1
 pos : d.2.2.2.2.1 = false → 0 ≤ d.2.2.2.2.2 ∧ d.2.2.2.2.2 ≤ (x.size : Int)
 cnt : 0 ≤ d.1 ∧ d.1 + (leftR x.size d : Int) ≤ (x.size : Int) + 3
 len : (d.2.2.2.1.length : Int) ≤ d.1
theorem inv_mk {x line : ByteArray} {cnt pos : Int} {ok done : Bool} {al : List ActV} (h1 : Sz line) (h2 : done = false → 0 ≤ pos ∧ pos ≤ (x.size : Int)) (h3 : 0 ≤ cnt) (h4 : cnt + ((bif ok then (bif done then 1 else 2 + (x.size - pos.toNat)) else 0 : Nat) : Int) ≤ (x.size : Int) + 3) (h5 : (al.length : Int) ≤ cnt) :
    InvR x (cnt, line, ok, al, done, pos) := ⟨h1, h2, ⟨h3, h4⟩, h5⟩
theorem p20_ok (x : ByteArray) : p20 x := by
 unfold p20
 intro hs
 have hs : ¬ (x.size : Int) > 1048576 := of_decide_eq_false hs
 have hx : Sz x := by unfold Sz; omega
 intro j1
 have jj : ∀ (l : ByteArray) (b : Bool) (v : Int), Sz l → (b = false → 0 ≤ v ∧ v ≤ (x.size : Int)) → j1 l b v := by
  intro l b v hl hv
  refine ⟨InvR x, leftR x.size, inv_mk hl hv (Int.le_refl _) ?_ (Int.le_refl _), ?_, ?_⟩
  ·show (0 : Int) + ((bif b then 1 else 2 + (x.size - v.toNat) : Nat) : Int) ≤ _
   cases b <;> simp only [cond_true, cond_false] <;> omega
  ·show (bif b then 1 else 2 + (x.size - v.toNat) : Nat) < 18446744073709551616
   cases b <;> simp only [cond_true, cond_false] <;> omega
  ·intro d0 hd hok
   obtain ⟨cnt, line, ok, acts, done, pos⟩ := d0
   have hok : ok = true := hok
   subst hok
   have g1 : Sz line := hd.line
   have g2 : done = false → 0 ≤ pos ∧ pos ≤ (x.size : Int) := hd.pos
   have g3 : 0 ≤ cnt := hd.cnt.1
   have g4 : cnt + ((bif done then 1 else 2 + (x.size - pos.toNat) : Nat) : Int) ≤ (x.size : Int) + 3 := hd.cnt.2
   have g5 : (acts.length : Int) ≤ cnt := hd.len
   clear hd
   have hc : cnt ≤ (x.size : Int) + 2 := by
    cases done <;> simp only [cond_true, cond_false] at g4 <;> omega
   have w1 : IntKind.wrap .i64 (cnt + 1) = cnt + 1 := wrap64_of _ (by omega) (by omega)
   intro j2
   have j3 : ∀ (k : Int) (al : List ActV), k = cnt + 1 → (al.length : Int) ≤ cnt + 1 → j2 k al := by
    intro k al hk hl
    subst hk
    cases done with
    | true =>
     have g4 : cnt + ((1 : Nat) : Int) ≤ (x.size : Int) + 3 := g4
     exact ⟨fun _ => ⟨inv_mk (Nat.zero_le _) (fun h => (by cases h)) (by omega) (by show cnt + 1 + ((0 : Nat) : Int) ≤ _; omega) hl, show 0 < 1 by decide⟩, fun h => (by cases h)⟩
    | false =>
     obtain ⟨p1, p2⟩ := g2 rfl
     have g4 : cnt + ((2 + (x.size - pos.toNat) : Nat) : Int) ≤ (x.size : Int) + 3 := g4
     have hr := ib_rng (strV x (some pos) none) 10
     rw [str_len] at hr
     refine ⟨fun h => (by cases h), fun _ => ⟨⟨p1, p2⟩, fun _ => ⟨⟨p1, p2⟩, ?_⟩, fun hn => ?_⟩⟩
     ·exact ⟨inv_mk (line := strV x (some pos) none) hx.str (fun h => (by cases h)) (by omega) (by show cnt + 1 + ((1 : Nat) : Int) ≤ _; omega) hl, show 1 < 2 + (x.size - pos.toNat) by omega⟩
     ·have hn : ¬ m204 (strV x (some pos) none) 10 < 0 := of_decide_eq_false hn
      have e : m135 (strV x (some pos) none) 10 = m204 (strV x (some pos) none) 10 := rfl
      show sbNeed x.size (some pos) (some (IntKind.wrap .i64 (pos + m135 (strV x (some pos) none) 10))) ∧ InvR x (cnt + 1, strV x (some pos) (some (IntKind.wrap .i64 (pos + m135 (strV x (some pos) none) 10))), true, al, false, IntKind.wrap .i64 (pos + IntKind.wrap .i64 (m135 (strV x (some pos) none) 10 + 1))) ∧ leftR x.size (cnt + 1, strV x (some pos) (some (IntKind.wrap .i64 (pos + m135 (strV x (some pos) none) 10))), true, al, false, IntKind.wrap .i64 (pos + IntKind.wrap .i64 (m135 (strV x (some pos) none) 10 + 1))) < 2 + (x.size - pos.toNat)
      rw [e]
      generalize m204 (strV x (some pos) none) 10 = q at hr hn ⊢
      have w2 : IntKind.wrap .i64 (pos + q) = pos + q := wrap64_of _ (by omega) (by omega)
      have w3 : IntKind.wrap .i64 (q + 1) = q + 1 := wrap64_of _ (by omega) (by omega)
      have w4 : IntKind.wrap .i64 (pos + (q + 1)) = pos + (q + 1) := wrap64_of _ (by omega) (by omega)
      rw [w2, w3, w4]
      exact ⟨⟨p1, by omega, by omega⟩, inv_mk (line := strV x (some pos) (some (pos + q))) hx.str (fun _ => ⟨by omega, by omega⟩) (by omega) (by show cnt + 1 + ((2 + (x.size - (pos + (q + 1)).toNat) : Nat) : Int) ≤ _; omega) hl, show 2 + (x.size - (pos + (q + 1)).toNat) < 2 + (x.size - pos.toNat) by omega⟩
   refine ⟨fun h => ⟨Int.le_refl _, eql_size h⟩, fun _ => j3 _ acts w1 (show (acts.length : Int) ≤ cnt + 1 by omega), fun _ => ⟨p16_ok g1, fun _ => ⟨⟨?_, ?_⟩, j3 _ _ w1 ?_⟩⟩⟩
   ·show acts.length + 1 ≤ maxLen
    unfold maxLen
    omega
   ·show (acts.length + 1) * 272 ≤ _
    omega
   ·show ((acts ++ [(m16 line).1]).length : Int) ≤ cnt + 1
    rw [List.length_append]
    show ((acts.length + 1 : Nat) : Int) ≤ cnt + 1
    omega
 have hr := ib_rng (strV x (some 0) none) 10
 rw [str_len] at hr
 refine ⟨⟨Int.le_refl _, by show (0 : Int) ≤ _; omega⟩, fun _ => ⟨⟨Int.le_refl _, by show (0 : Int) ≤ _; omega⟩, jj _ _ _ hx.str (fun h => by cases h)⟩, fun hn => ?_⟩
 have hn : ¬ m204 (strV x (some 0) none) 10 < 0 := of_decide_eq_false hn
 have e : m135 (strV x (some 0) none) 10 = m204 (strV x (some 0) none) 10 := rfl
 show sbNeed x.size (some (0 : Int)) (some (IntKind.wrap .i64 ((0 : Int) + m135 (strV x (some 0) none) 10))) ∧ j1 (strV x (some 0) (some (IntKind.wrap .i64 ((0 : Int) + m135 (strV x (some 0) none) 10)))) false (IntKind.wrap .i64 ((0 : Int) + IntKind.wrap .i64 (m135 (strV x (some 0) none) 10 + 1)))
 rw [e]
 generalize m204 (strV x (some 0) none) 10 = q at hr hn ⊢
 have w2 : IntKind.wrap .i64 (0 + q) = q := by rw [wrap64_of _ (by omega) (by omega)]; omega
 have w3 : IntKind.wrap .i64 (q + 1) = q + 1 := wrap64_of _ (by omega) (by omega)
 have w4 : IntKind.wrap .i64 (0 + (q + 1)) = q + 1 := by rw [wrap64_of _ (by omega) (by omega)]; omega
 rw [w2, w3, w4]
 exact ⟨⟨Int.le_refl _, by omega, by omega⟩, jj _ _ _ hx.str (fun _ => ⟨by omega, by omega⟩)⟩
theorem sz_small {x : ByteArray} (h : x.size ≤ 1000) : Sz x := by unfold Sz; omega
theorem p15_ok : p15 := by
 have e : Sz (⟨#[]⟩ : ByteArray) := Nat.zero_le _
 have s : ∀ k : Int, -10 ≤ k → k ≤ 20 → I64 k := fun k h1 h2 => i64_small (by omega) (by omega)
 have oq : OkQ ⟨0, 0, ⟨0, ⟨#[]⟩, ⟨#[]⟩⟩, ⟨#[]⟩, ⟨0, 0, ⟨#[]⟩⟩, ⟨#[]⟩⟩ := ⟨z64, z64, z64, e, e, e, ⟨z64, z64, e⟩, e⟩
 have hl : ∀ i : Nat, (List.getD ([⟨#[116, 105, 99, 107, 32, 48, 53]⟩, ⟨#[116, 105, 99, 107]⟩, ⟨#[84, 105, 99, 107, 32, 53]⟩, ⟨#[115, 101, 110, 115, 101, 32, 49, 46, 118, 97, 108, 118, 101, 46, 111, 112, 101, 110, 32, 110, 111, 110, 101]⟩] : List ByteArray) i (dT .str)).size ≤ 1000 := by
  intro i
  match i with
  | 0 => decide
  | 1 => decide
  | 2 => decide
  | 3 => decide
  | _ + 4 => exact Nat.zero_le _
 unfold p15
 refine ⟨p13_ok ⟨s _ (by decide) (by decide), z64, z64, s _ (by decide) (by decide), sz_small (by decide), sz_small (by decide), ⟨s _ (by decide) (by decide), s _ (by decide) (by decide), e⟩, z64, e, e, e, oq⟩, fun _ => ⟨p13_ok ⟨s _ (by decide) (by decide), s _ (by decide) (by decide), z64, z64, e, e, ⟨z64, z64, e⟩, z64, e, e, e, oq⟩, fun _ => ⟨fun _ _ => True, trivial, fun i d _ _ => ⟨p16_ok (sz_small (hl _)), fun _ => trivial⟩, fun _ _ => p20_ok _⟩⟩⟩
theorem m15_true : m15 = true := by kernel_rfl
end Go.Av
