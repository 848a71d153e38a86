/- Chapter 24: what a valid home says of its clusters; finding; the reference of devices. Conditions: none. -/
import Derived.Test.YtnnlaccdendkpaaGreatPB8
import Derived.Laws.RangeString
import Derived.Laws.RangeAny
namespace Go.Proofs.YtnnlaccdendkpaaGreat
open Go Go.Av Go.Hh Go.Proofs
theorem bz {a : Int} (h : (a != 0) = false) : a = 0 := by simpa using h
theorem getD_zero {o : Option Int} {d : Int} (h : o.getD d = 0) (hn : ∀ r, o = some r → r ≠ 0) : o = none ∧ d = 0 := by
 cases o with
 | none => exact ⟨rfl, h⟩
 | some r => exact absurd h (hn r rfl)
theorem beqS_comm (a b : ByteArray) : beqS a b = beqS b a := by rw [beqS_eq, beqS_eq]; exact decide_eq_decide.2 eq_comm
theorem beqS_refl (a : ByteArray) : beqS a a = true := by rw [beqS_eq]; simp
theorem scan_none {R : Type} {b : Nat → Option R} {n : Nat} (h : ∀ j, j < n → b j = none) : scanN b 0 n = none := scanN_all.2 fun j _ hj => h j (by omega)
theorem scan_at {R : Type} {b : Nat → Option R} {n : Nat} (h : scanN b 0 n = none) {j : Nat} (hj : j < n) : b j = none := scanN_all.1 h j (Nat.zero_le _) (by omega)
theorem getElem_lt {α : Type} {l : List α} {k : Nat} {e : α} (h : l[k]? = some e) : k < l.length := (List.getElem?_eq_some_iff.1 h).1
theorem scan_eq {R : Type} {b c : Nat → Option R} {n : Nat} (h : ∀ j, j < n → b j = c j) : scanN b 0 n = scanN c 0 n := scanN_congr fun j _ hj => h j (by omega)
theorem valid_scan (x : ByteArray) : ∀ (m k : Nat), x.size - k ≤ m → scanR x (validM_B1 x) m k = scanN (rvalidM_B1 x) k (x.size - k)
 | 0, k, h => by rw [show x.size - k = 0 from by omega]; rfl
 | m + 1, k, h => by
  by_cases hk : k < x.size
  ·simp only [scanR, hk, if_true]
   rw [show x.size - k = (x.size - (k + 1)) + 1 from by omega]
   simp only [scanN]
   have hl : x.data.toList[k]? = some (x[k]'hk) := by
    have : k < x.data.toList.length := by simpa using hk
    rw [List.getElem?_eq_getElem this]; rfl
   have hb : validM_B1 x k = rvalidM_B1 x k ∧ (validM_B1 x k = none → (Utf8.decode x k).2 = 1) := by
    rcases Nat.lt_or_ge (x[k]'hk).toNat 128 with ha | ha
    ·have hd := decode_ascii x k hk ha
     constructor
     ·unfold validM_B1 rvalidM_B1 letterM
      simp only [hl, hd]
     ·intro _; rw [hd]
    ·have hd := (decode_high x k hk ha).1
     have e1 : validM_B1 x k = some false := by
      unfold validM_B1 letterM
      generalize (Utf8.decode x k).1 = c at hd
      have h1 : decide ((c : Int) ≤ 122) = false := decide_eq_false (by omega)
      have h2 : ((c : Int) != 95) = true := by simp; omega
      have h3 : ((c : Int) != 45) = true := by simp; omega
      have h4 : decide ((c : Int) > 57) = true := decide_eq_true (by omega)
      simp only [h1, h2, h3, h4, Bool.and_false, Bool.not_false, Bool.and_true, Bool.or_true, Bool.true_and, cond_true]
     have e2 : rvalidM_B1 x k = some false := by
      unfold rvalidM_B1
      rw [hl]
      simp only
      generalize (x[k]'hk).toNat = c at ha
      have h1 : decide ((c : Int) ≤ 122) = false := decide_eq_false (by omega)
      have h2 : ((c : Int) != 95) = true := by simp; omega
      have h3 : ((c : Int) != 45) = true := by simp; omega
      have h4 : decide ((c : Int) > 57) = true := decide_eq_true (by omega)
      simp only [h1, h2, h3, h4, Bool.and_false, Bool.not_false, Bool.and_true, Bool.or_true, Bool.true_and, cond_true]
     exact ⟨e1.trans e2.symm, fun h => by rw [e1] at h; cases h⟩
   rw [hb.1]
   cases hr : rvalidM_B1 x k with
   | some r => rfl
   | none =>
    simp only
    rw [hb.2 (hb.1.trans hr)]
    exact valid_scan x m (k + 1) (by omega)
  ·simp [scanR, hk, show x.size - k = 0 from by omega, scanN]
theorem valid_eq (x : ByteArray) : validM x = rvalidM x := by
 unfold validM rvalidM
 have : validM_L1 x = rvalidM_L1 x := by
  unfold validM_L1 rvalidM_L1
  rw [valid_scan x x.size 0 (by omega)]
  rfl
 rw [this]
theorem wide_eq (c : Cluster) : wideM c = tooManyM c := by
 unfold wideM tooManyM
 have h1 : wideM_L1 c = tooManyM_L1 c := rfl
 rw [h1]
 cases h : tooManyM_L1 c with
 | none => simp
 | some r =>
  obtain ⟨k, _, _, hk, _⟩ := scanN_get h
  unfold tooManyM_B1 at hk
  simp only [cond_eq_ite] at hk
  split at hk
  ·split at hk
   ·simp only [Option.some.injEq] at hk
    subst hk
    simp
   ·cases hk
  ·cases hk
theorem beqS_true {a b : ByteArray} : beqS a b = true ↔ a = b := by rw [beqS_eq]; simp
theorem beqS_false {a b : ByteArray} : beqS a b = false ↔ a ≠ b := by rw [beqS_eq]; simp
theorem rmember_iff (l : List ByteArray) (x : ByteArray) : rmemberM l x = true ↔ x ∈ l := by
 unfold rmemberM
 cases h : rmemberM_L1 l x with
 | none =>
  refine ⟨fun h => (by cases h), fun hx => ?_⟩
  obtain ⟨k, hk, rfl⟩ := List.mem_iff_getElem.1 hx
  have := scan_at h hk
  unfold rmemberM_B1 at this
  rw [List.getElem?_eq_getElem hk] at this
  simp only [beqS_refl, cond_true] at this
  cases this
 | some r =>
  obtain ⟨k, _, _, hk, _⟩ := scanN_get h
  unfold rmemberM_B1 at hk
  simp only [cond_eq_ite] at hk
  split at hk
  ·rename_i e he
   split at hk
   ·rename_i hb
    simp only [Option.some.injEq] at hk
    subst hk
    rw [beqS_true] at hb
    subst hb
    exact ⟨fun _ => List.mem_of_getElem? he, fun _ => rfl⟩
   ·cases hk
  ·cases hk
theorem sIndex_cases (l : List ByteArray) (x : ByteArray) : (sIndexM l x = -1 ∧ x ∉ l) ∨ ∃ j : Nat, sIndexM l x = (j : Int) ∧ l[j]? = some x ∧ ∀ i, i < j → l[i]? ≠ some x := by
 unfold sIndexM
 cases h : sIndexM_L1 l x with
 | none =>
  refine .inl ⟨rfl, fun hx => ?_⟩
  obtain ⟨k, hk, rfl⟩ := List.mem_iff_getElem.1 hx
  have := scan_at h hk
  unfold sIndexM_B1 at this
  rw [List.getElem?_eq_getElem hk] at this
  simp only [beqS_refl, cond_true] at this
  cases this
 | some r =>
  obtain ⟨k, _, _, hk, hno⟩ := scanN_get h
  unfold sIndexM_B1 at hk
  simp only [cond_eq_ite] at hk
  split at hk
  ·rename_i e he
   split at hk
   ·rename_i hb
    simp only [Option.some.injEq] at hk
    subst hk
    rw [beqS_true] at hb
    subst hb
    refine .inr ⟨k, rfl, he, fun i hi hx => ?_⟩
    have := hno i (Nat.zero_le _) hi
    unfold sIndexM_B1 at this
    rw [hx] at this
    simp only [beqS_refl, cond_true] at this
    cases this
   ·cases hk
  ·cases hk
theorem sCont_iff (l : List ByteArray) (x : ByteArray) : sContM l x = true ↔ x ∈ l := by
 unfold sContM
 rcases sIndex_cases l x with ⟨h1, h2⟩ | ⟨j, h1, h2, _⟩
 ·rw [h1]
  exact ⟨fun h => by simp at h, fun h => absurd h h2⟩
 ·rw [h1]
  exact ⟨fun _ => List.mem_of_getElem? h2, fun _ => decide_eq_true (by omega)⟩
theorem mem_take_iff {α : Type} {l : List α} {k : Nat} {x : α} : x ∈ l.take k ↔ ∃ i, i < k ∧ l[i]? = some x := by
 rw [List.mem_iff_getElem?]
 constructor
 ·rintro ⟨i, hi⟩
  rw [List.getElem?_take] at hi
  split at hi
  ·rename_i h; exact ⟨i, h, hi⟩
  ·cases hi
 ·rintro ⟨i, h, hi⟩
  exact ⟨i, by rw [List.getElem?_take, if_pos h]; exact hi⟩
theorem sIndex_lt {l : List ByteArray} {k : Nat} {e : ByteArray} (he : l[k]? = some e) : decide (nIndexM l e < (k : Int)) = rmemberM (l.take k) e := by
 unfold nIndexM
 rw [Bool.eq_iff_iff, decide_eq_true_eq, rmember_iff, mem_take_iff]
 rcases sIndex_cases l e with ⟨_, h2⟩ | ⟨j, h1, h2, h3⟩
 ·exact absurd (List.mem_of_getElem? he) h2
 ·rw [h1]
  constructor
  ·intro h; exact ⟨j, by omega, h2⟩
  ·rintro ⟨i, hi, hx⟩
   rcases Nat.lt_or_ge i j with h | h
   ·exact absurd hx (h3 i h)
   ·omega
theorem sameNames_eq (l m : List ByteArray) : sameNamesM l m = decide (l = m) := by
 unfold sameNamesM
 simp only [cond_eq_ite]
 split
 ·rename_i h
  refine (decide_eq_false fun e => ?_).symm
  subst e
  simp at h
 ·rename_i h
  have hl : l.length = m.length := by simp at h; omega
  cases h1 : sameNamesM_L1 l m with
  | none =>
   refine (decide_eq_true ?_).symm
   apply List.ext_getElem hl
   intro i h2 h3
   have := scan_at h1 h2
   unfold sameNamesM_B1 at this
   rw [List.getElem?_eq_getElem h2, List.getElem?_eq_getElem h3] at this
   simp only [cond_eq_ite] at this
   split at this
   ·cases this
   ·rename_i h4
    simp only [Bool.not_eq_true', beqS_eq, decide_eq_false_iff_not, Decidable.not_not] at h4
    exact h4
  | some r =>
   obtain ⟨k, _, _, hk, _⟩ := scanN_get h1
   unfold sameNamesM_B1 at hk
   simp only [cond_eq_ite] at hk
   split at hk
   ·rename_i a ha
    split at hk
    ·rename_i b hb
     split at hk
     ·rename_i hne
      simp only [Option.some.injEq] at hk
      subst hk
      refine (decide_eq_false fun e => ?_).symm
      subst e
      rw [ha] at hb
      cases hb
      simp [beqS_refl] at hne
     ·cases hk
    ·cases hk
   ·cases hk
theorem sEqual_eq (l m : List ByteArray) : sEqualM l m = decide (l = m) := (show sEqualM l m = sameNamesM l m from rfl).trans (sameNames_eq l m)
theorem members_eq (a : Attr) : membersM a.enum = (bif (decide ((a.enum.length : Int) < 1) || decide ((a.enum.length : Int) > 64)) then 3 else (rdefM_L1 a).getD 0) := by
 unfold membersM
 have : membersM_L1 a.enum = rdefM_L1 a := scan_eq fun j hj => by
  unfold membersM_B1 rdefM_B1
  have he : a.enum[j]? = some a.enum[j] := List.getElem?_eq_getElem hj
  rw [he]
  simp only
  rw [valid_eq, sIndex_lt he]
 rw [this]
theorem def_eq (a : Attr) : defM a = rdefM a := by
 unfold defM rdefM
 rw [valid_eq, members_eq]
 simp only [cond_eq_ite]
 have hr : ((!(inRangeM a.min) || !(inRangeM a.max)) || decide (a.min > a.max)) = ((decide (a.min < -1099511627776) || decide (a.max > 1099511627776)) || decide (a.min > a.max)) := by
  unfold inRangeM
  rw [Bool.eq_iff_iff]
  simp only [Bool.or_eq_true, Bool.not_eq_true', Bool.and_eq_false_iff, decide_eq_false_iff_not, decide_eq_true_eq]
  omega
 rw [hr]
 by_cases h3 : a.kind = 3
 ·simp [h3]
 ·simp [h3]
theorem ite_iff {α : Type} {p q : Prop} [Decidable p] [Decidable q] {a b : α} (h : p ↔ q) : (if p then a else b) = if q then a else b := by
 by_cases hp : p
 ·rw [if_pos hp, if_pos (h.1 hp)]
 ·rw [if_neg hp, if_neg fun hq => hp (h.2 hq)]
theorem ite_swap {α : Type} {p q : Prop} [Decidable p] [Decidable q] {a b : α} (h : p ↔ ¬ q) : (if p then a else b) = if q then b else a := by
 by_cases hq : q
 ·rw [if_pos hq, if_neg fun hp => h.1 hp hq]
 ·rw [if_neg hq, if_pos (h.2 hq)]
theorem vcheck_eq (v : Val) : vCheckM v = rvCheckM v := by
 unfold vCheckM rvCheckM inRangeM
 simp only [cond_eq_ite]
 by_cases h0 : v.kind = 0
 ·simp [h0]
  apply ite_swap
  omega
 by_cases h4 : v.kind = 4
 ·simp [h4]
  apply ite_swap
  omega
 by_cases h1 : v.kind = 1
 ·simp [h1]
  apply ite_iff
  omega
 by_cases h2 : v.kind = 2
 ·simp [h2]
 by_cases h3 : v.kind = 3
 ·simp [h3]
 ·simp [h0, h1, h2, h3, h4]
theorem fits_eq (a : Attr) (v : Val) : fitsM a v = rfitsM a v := by
 unfold fitsM rfitsM
 rw [def_eq, vcheck_eq]
theorem scan_first {R : Type} {b : Nat → Option R} {n j : Nat} {r : R} (hj : j < n) (hb : b j = some r) (hno : ∀ i, i < j → b i = none) : scanN b 0 n = some r := by
 cases h : scanN b 0 n with
 | none => rw [scan_at h hj] at hb; cases hb
 | some r' =>
  obtain ⟨k, _, _, hk, hk2⟩ := scanN_get h
  rcases Nat.lt_trichotomy k j with h1 | h1 | h1
  ·rw [hno k h1] at hk; cases hk
  ·subst h1; rw [hb] at hk; rw [hk]
  ·rw [hk2 j (Nat.zero_le _) h1] at hb; cases hb
theorem place_cases (c : Cluster) (x : ByteArray) : (placeM c x = -1 ∧ ∀ (j : Nat) (a : Attr), c.attrs[j]? = some a → a.name ≠ x) ∨
    ∃ (j : Nat) (a : Attr), placeM c x = (j : Int) ∧ c.attrs[j]? = some a ∧ a.name = x ∧ ∀ (i : Nat) (b : Attr), i < j → c.attrs[i]? = some b → b.name ≠ x := by
  unfold placeM
  have hnone : ∀ {j : Nat} {a : Attr}, c.attrs[j]? = some a → placeM_B1 c x j = none → a.name ≠ x := by
    intro j a ha hb he
    unfold placeM_B1 at hb
    rw [ha] at hb
    subst he
    simp only [beqS_refl, cond_true] at hb
    cases hb
  cases h : placeM_L1 c x with
  | none => exact .inl ⟨rfl, fun j a ha => hnone ha (scan_at h (getElem_lt ha))⟩
  | some r =>
    obtain ⟨k, _, _, hk, hno⟩ := scanN_get h
    unfold placeM_B1 at hk
    simp only [cond_eq_ite] at hk
    split at hk
    · rename_i e he
      split at hk
      · rename_i hb
        simp only [Option.some.injEq] at hk
        subst hk
        exact .inr ⟨k, e, rfl, he, beqS_true.1 hb, fun i b hi hb => hnone hb (hno i (Nat.zero_le _) hi)⟩
      · cases hk
    · cases hk
theorem attr_eq (c : Cluster) (x : ByteArray) : attrM c x = rattrM c x := by
 unfold attrM rattrM
 rcases place_cases c x with ⟨h1, h2⟩ | ⟨j, a, h1, h2, h3, h4⟩
 ·have : attrM_L1 c x = none := scan_none fun j hj => by
   unfold attrM_B1
   rw [List.getElem?_eq_getElem hj]
   simp only
   rw [beqS_false.2 (h2 j _ (List.getElem?_eq_getElem hj))]
   rfl
  rw [this, h1]
  rfl
 ·have : attrM_L1 c x = some (a, true) := scan_first (getElem_lt h2) (by
   unfold attrM_B1
   rw [h2]
   simp only
   rw [beqS_true.2 h3]
   rfl) fun i hi => by
   unfold attrM_B1
   have hil : i < c.attrs.length := Nat.lt_trans hi (getElem_lt h2)
   rw [List.getElem?_eq_getElem hil]
   simp only
   rw [beqS_false.2 (h4 i _ hi (List.getElem?_eq_getElem hil))]
   rfl
  rw [this, h1]
  have : decide ((j : Int) < 0) = false := decide_eq_false (by omega)
  rw [this]
  simp only [cond_false, Int.toNat_natCast, h2]
  rfl
theorem zero_eq (a : Attr) : zeroM a = sameAttrM a (⟨⟨#[]⟩, 0, 0, 0, [], false, false⟩ : Attr) := by
 unfold zeroM sameAttrM
 rw [sameNames_eq]
 have h : ((a.enum.length : Int) == 0) = decide (a.enum = []) := by
  rw [Bool.eq_iff_iff]; simp
 rw [h]
 cases a.writable <;> cases a.safety <;> simp
theorem sat_ne (n : Int) : (satM n != n) = (decide (n < -1099511627776) || decide (n > 1099511627776)) := by
 unfold satM
 rw [Bool.eq_iff_iff]
 simp only [bne_iff_ne, Bool.or_eq_true, decide_eq_true_eq]
 split <;> split <;> omega
theorem suits_eq (x : Effect) (a b : Attr) : suitsM x a b = rsuitsM x a b := by
 unfold suitsM rsuitsM alikeM
 rw [fits_eq, sEqual_eq, sameNames_eq]
 have h1 : (a.kind == b.kind) = (b.kind == a.kind) := by rw [Bool.eq_iff_iff]; simp; exact eq_comm
 have h2 : decide (a.enum = b.enum) = decide (b.enum = a.enum) := decide_eq_decide.2 eq_comm
 rw [h1, h2]
theorem effect_eq (c : Cluster) (b : Attr) (x : Effect) : effectM c b x = reffectM c b x := by
 unfold effectM reffectM
 rw [attr_eq, suits_eq, sat_ne]
theorem numbered_eq (c : Cluster) {i : Nat} (hi : i < c.commands.length) : numberedM c i = oneM c i := by
 unfold numberedM oneM
 have he : c.commands[i]? = some c.commands[i] := List.getElem?_eq_getElem hi
 rw [he]
 simp only
 have h1 : numberedM_L1 c i c.commands[i] = oneM_L1 c i c.commands[i] := by
  unfold numberedM_L1 oneM_L1
  rw [List.length_take, Nat.min_eq_left (Nat.le_of_lt hi)]
  exact scan_eq fun j hj => by
   unfold numberedM_B1 oneM_B1
   rw [List.getElem?_take, if_pos hj]
 have h2 : numberedM_L2 c i c.commands[i] = oneM_L2 c i c.commands[i] := scan_eq fun j hj => by
  unfold numberedM_B2 oneM_B2
  rw [List.getElem?_eq_getElem hj]
  simp only
  rw [effect_eq]
 rw [h1, h2, valid_eq, def_eq, zero_eq]
open Classical in
theorem dup_scan {α : Type} {l : List α} (name : α → ByteArray) (x : ByteArray) (k : Nat) (b : Nat → Option Int) (hb : ∀ (j : Nat) (e : α), j < k → l[j]? = some e → b j = bif beqS (name e) x then some 9 else none) (hk : k ≤ l.length) :
    scanN b 0 k = if ∃ (j : Nat) (e : α), j < k ∧ l[j]? = some e ∧ name e = x then some 9 else none := by
  split
  · rename_i h
    obtain ⟨j, e, h1, h2, h3⟩ := h
    cases hs : scanN b 0 k with
    | none =>
      have := scan_at hs h1
      rw [hb j e h1 h2, beqS_true.2 h3] at this
      cases this
    | some r =>
      obtain ⟨i, _, hi2, hi, _⟩ := scanN_get hs
      have hil : i < l.length := by omega
      rw [hb i l[i] (by omega) (List.getElem?_eq_getElem hil)] at hi
      cases hq : beqS (name l[i]) x <;> rw [hq] at hi
      · cases hi
      · exact hi.symm
  · rename_i h
    refine scan_none fun j hj => ?_
    have hjl : j < l.length := by omega
    rw [hb j l[j] hj (List.getElem?_eq_getElem hjl)]
    rw [beqS_false.2 fun he => h ⟨j, l[j], hj, List.getElem?_eq_getElem hjl, he⟩]
    rfl
theorem attrs_eq (c : Cluster) : checkM_L1 c = rcheckM_L1 c := scan_eq fun j hj => by
 unfold checkM_B1 rcheckM_B1
 have he : c.attrs[j]? = some c.attrs[j] := List.getElem?_eq_getElem hj
 rw [he]
 simp only
 rw [def_eq]
 have h2 : checkM_L2 c j c.attrs[j] = (bif decide (placeM c c.attrs[j].name < (j : Int)) then some 9 else none) := by
  unfold checkM_L2
  rw [List.length_take, Nat.min_eq_left (Nat.le_of_lt hj), dup_scan (l := c.attrs) (·.name) c.attrs[j].name j _ (fun i e hi hie => by
   unfold checkM_B2
   rw [List.getElem?_take, if_pos hi, hie]) (Nat.le_of_lt hj), cond_eq_ite]
  rcases place_cases c c.attrs[j].name with ⟨_, g2⟩ | ⟨i, a, g1, g2, g3, g4⟩
  ·exact absurd rfl (g2 j _ he)
  ·rw [g1]
   by_cases hij : i < j
   ·rw [if_pos ⟨i, a, hij, g2, g3⟩, if_pos (by simpa using hij)]
   ·rw [if_neg, if_neg (by simp; omega)]
    rintro ⟨q, e, hq, hqe, hn⟩
    exact g4 q e (by omega) hqe hn
 rw [h2]
theorem commands_eq (c : Cluster) : checkM_L3 c = rcheckM_L2 c := scan_eq fun j hj => by
 unfold checkM_B3 rcheckM_B2
 rw [numbered_eq c hj]
theorem events_eq (c : Cluster) : checkM_L4 c = rcheckM_L3 c := scan_eq fun j hj => by
 unfold checkM_B4 rcheckM_B3
 have he : c.events[j]? = some c.events[j] := List.getElem?_eq_getElem hj
 rw [he]
 simp only
 rw [valid_eq]
 have h2 : rcheckM_L4 c j c.events[j] = (bif sContM (c.events.take j) c.events[j] then some 9 else none) := by
  unfold rcheckM_L4
  rw [dup_scan (l := c.events) id c.events[j] j _ (fun i e hi hie => by
   unfold rcheckM_B4
   rw [hie]
   rfl) (Nat.le_of_lt hj), cond_eq_ite]
  have : (∃ (i : Nat) (e : ByteArray), i < j ∧ c.events[i]? = some e ∧ id e = c.events[j]) ↔ c.events[j] ∈ c.events.take j := by
   rw [mem_take_iff]
   constructor
   ·rintro ⟨i, e, h1, h2, rfl⟩; exact ⟨i, h1, h2⟩
   ·rintro ⟨i, h1, h2⟩; exact ⟨i, _, h1, h2, rfl⟩
  by_cases hm : c.events[j] ∈ c.events.take j
  ·rw [if_pos (this.2 hm), (sCont_iff _ _).2 hm]; rfl
  ·rw [if_neg (fun h => hm (this.1 h)), Bool.eq_false_iff.2 (fun h => hm ((sCont_iff _ _).1 h))]; rfl
 rw [h2]
theorem check_eq (c : Cluster) : checkM c = rcheckM c := by
 unfold checkM rcheckM
 rw [valid_eq, wide_eq, attrs_eq, commands_eq, events_eq]
theorem all_eq (l : List Cluster) : allM l = rallM l := by
 unfold allM rallM
 have h : allM_L1 l = rallM_L1 l := scan_eq fun j hj => by
  unfold allM_B1 rallM_B1
  rw [List.getElem?_eq_getElem hj]
  simp only
  rw [check_eq]
  have h2 : allM_L2 l j l[j] = rallM_L2 l j l[j] := by
   unfold allM_L2 rallM_L2
   rw [List.length_take, Nat.min_eq_left (Nat.le_of_lt hj)]
   exact scan_eq fun i hi => by
    unfold allM_B2 rallM_B2
    rw [List.getElem?_take, if_pos hi]
  rw [h2]
 rw [h]
theorem scan_ne {b : Nat → Option Int} {n : Nat} (h : ∀ k r, b k = some r → r ≠ 0) : ∀ r, scanN b 0 n = some r → r ≠ 0 := fun r hr => by
 obtain ⟨k, _, _, hk, _⟩ := scanN_get hr
 exact h k r hk
theorem all_spec {l : List Cluster} (h : allM l = 0) : l.length ≤ 256 ∧ (∀ (k : Nat) (c : Cluster), l[k]? = some c → checkM c = 0) ∧ ∀ (k j : Nat) (c d : Cluster), l[k]? = some c → l[j]? = some d → j < k → beqS d.name c.name = false := by
 unfold allM at h
 simp only [cond_eq_ite] at h
 split at h
 ·cases h
 rename_i h0
 obtain ⟨h1, _⟩ := getD_zero h (scan_ne fun k r hk => by
  unfold allM_B1 at hk
  simp only [cond_eq_ite] at hk
  split at hk
  ·rename_i e he
   split at hk
   ·rename_i hq
    simp only [Option.some.injEq] at hk
    subst hk
    simpa using hq
   ·obtain ⟨j, _, _, hj, _⟩ := scanN_get hk
    unfold allM_B2 at hj
    simp only [cond_eq_ite] at hj
    split at hj
    ·split at hj
     ·simp only [Option.some.injEq] at hj
      subst hj; decide
     ·cases hj
    ·cases hj
  ·cases hk)
 have key : ∀ (k : Nat) (c : Cluster), l[k]? = some c → checkM c = 0 ∧ allM_L2 l k c = none := by
  intro k c hc
  have := scan_at h1 (getElem_lt hc)
  unfold allM_B1 at this
  simp only [hc, cond_eq_ite] at this
  split at this
  ·cases this
  ·rename_i hq
   exact ⟨by simpa using hq, this⟩
 refine ⟨by simp at h0; omega, fun k c hc => (key k c hc).1, fun k j c d hc hd hjk => ?_⟩
 have h2 := (key k c hc).2
 have hkl := getElem_lt hc
 have := scan_at (n := (l.take k).length) (b := allM_B2 l k c) h2 (j := j) (by rw [List.length_take]; omega)
 unfold allM_B2 at this
 rw [List.getElem?_take, if_pos hjk, hd] at this
 simp only [cond_eq_ite] at this
 split at this
 ·cases this
 ·rename_i hq
  simpa using hq
theorem loopS_congr {R A : Type} {b c : Nat → A → Step R A} (h : ∀ k a, b k a = c k a) : ∀ (m k : Nat) (a : A), loopS b k m a = loopS c k m a
 | 0, _, _ => rfl
 | m + 1, k, a => by
  unfold loopS
  rw [h]
  cases c k a with
  | ret r => rfl
  | brk a' => rfl
  | nxt a' => exact loopS_congr h m (k + 1) a'
theorem loopS_scan {R A : Type} {b : Nat → A → Step R A} {c : Nat → Option R} {n : Nat} (I : Nat → A → Prop)
    (h : ∀ k a, k < n → I k a → (∃ r, b k a = .ret r ∧ c k = some r) ∨ (∃ a', b k a = .nxt a' ∧ c k = none ∧ I (k + 1) a')) :
    ∀ (m k : Nat) (a : A), k + m = n → I k a → (∃ r, loopS b k m a = .inl r ∧ scanN c k m = some r) ∨ (∃ a', loopS b k m a = .inr a' ∧ scanN c k m = none)
  | 0, k, a, _, _ => .inr ⟨a, rfl, rfl⟩
  | m + 1, k, a, hk, ha => by
    rcases h k a (by omega) ha with ⟨r, h1, h2⟩ | ⟨a', h1, h2, h3⟩
    · exact .inl ⟨r, by simp [loopS, h1], by simp [scanN, h2]⟩
    · have := loopS_scan I h m (k + 1) a' (by omega) h3
      simpa [loopS, h1, scanN, h2] using this
theorem nIndex_eq (l : List ByteArray) (x : ByteArray) : nIndexM l x = r04IndexM l x := by
 show (scanN _ 0 _).getD (-1) = (scanN _ 0 _).getD (-1)
 congr 1
 refine scan_eq fun j hj => ?_
 unfold sIndexM_B1 r04IndexM_B1
 cases l[j]? with
 | none => rfl
 | some e => simp only [beqS_comm]
theorem all_names {l : List Cluster} (h : allM l = 0) : ∀ (k j : Nat) (c d : Cluster), l[k]? = some c → l[j]? = some d → j < k → d.name ≠ c.name := by
 intro k j c d hk hj hlt
 exact beqS_false.1 ((all_spec h).2.2 k j c d hk hj hlt)
theorem mget_map {l : List Cluster} {x : ByteArray} : (mget (l.map fun c => (c.name, c)) x = none ∧ ∀ c ∈ l, c.name ≠ x) ∨ ∃ (j : Nat) (c : Cluster), mget (l.map fun c => (c.name, c)) x = some c ∧ l[j]? = some c ∧ c.name = x ∧ ∀ (i : Nat) (d : Cluster), i < j → l[i]? = some d → d.name ≠ x := by
 induction l with
 | nil => exact .inl ⟨rfl, by simp⟩
 | cons e r ih =>
  by_cases he : e.name = x
  ·exact .inr ⟨0, e, by simp [mget, he], rfl, he, fun i d hi => absurd hi (by omega)⟩
  ·rcases ih with ⟨h1, h2⟩ | ⟨j, c, h1, h2, h3, h4⟩
   ·exact .inl ⟨by simpa [mget, he] using h1, fun c hc => by rcases List.mem_cons.1 hc with rfl | hc; exact he; exact h2 c hc⟩
   ·refine .inr ⟨j + 1, c, by simpa [mget, he] using h1, by simpa using h2, h3, fun i d hi hd => ?_⟩
    cases i with
    | zero => simp at hd; subst hd; exact he
    | succ i => exact h4 i d (by omega) (by simpa using hd)
theorem rclus_rel (h : Home) (x : ByteArray) : (rclusM h x = -1 ∧ mget (h.clusters.map fun c => (c.name, c)) x = none) ∨ ∃ (j : Nat) (c : Cluster), rclusM h x = (j : Int) ∧ h.clusters[j]? = some c ∧ mget (h.clusters.map fun c => (c.name, c)) x = some c := by
 rcases mget_map (l := h.clusters) (x := x) with ⟨h1, h2⟩ | ⟨j, c, h1, h2, h3, h4⟩
 ·refine .inl ⟨?_, h1⟩
  unfold rclusM rclusM_L1
  rw [scan_none fun j hj => ?_]
  ·rfl
  ·unfold rclusM_B1
   rw [List.getElem?_eq_getElem hj]
   simp only [beqS_false.2 (h2 _ (List.getElem_mem hj)), cond_false]
 ·refine .inr ⟨j, c, ?_, h2, h1⟩
  unfold rclusM rclusM_L1
  rw [scan_first (j := j) (r := (j : Int)) (getElem_lt h2) ?_ fun i hi => ?_]
  ·rfl
  ·unfold rclusM_B1
   rw [h2]
   simp only [beqS_true.2 h3, cond_true]
  ·unfold rclusM_B1
   have hl : i < h.clusters.length := Nat.lt_trans hi (getElem_lt h2)
   rw [List.getElem?_eq_getElem hl]
   simp only [beqS_false.2 (h4 i _ hi (List.getElem?_eq_getElem hl)), cond_false]
theorem mput_new {l : List Cluster} {c : Cluster} (h : ∀ d ∈ l, d.name ≠ c.name) : mput (l.map fun c => (c.name, c)) c.name c = (l ++ [c]).map fun c => (c.name, c) := by
 induction l with
 | nil => rfl
 | cons e r ih =>
  have he : e.name ≠ c.name := h e (by simp)
  simp only [List.map_cons, List.cons_append, mput, if_neg he, ih fun d hd => h d (by simp [hd])]
theorem clusters_eq {h : Home} (hn : ∀ (k j : Nat) (c d : Cluster), h.clusters[k]? = some c → h.clusters[j]? = some d → j < k → d.name ≠ c.name) : clustersM h = h.clusters.map fun c => (c.name, c) := by
 have key : ∀ (m k : Nat), k + m = h.clusters.length → iterN (clustersM_B1 h) k m ((h.clusters.take k).map fun c => (c.name, c)) = h.clusters.map fun c => (c.name, c) := by
  intro m
  induction m with
  | zero => intro k hk; rw [iterN, List.take_of_length_le (by omega)]
  | succ m ih =>
   intro k hk
   have hl : k < h.clusters.length := by omega
   rw [iterN, ← ih (k + 1) (by omega)]
   congr 1
   unfold clustersM_B1
   rw [List.getElem?_eq_getElem hl]
   simp only
   rw [mput_new, List.take_succ_eq_append_getElem hl]
   intro d hd
   obtain ⟨i, hi, hid⟩ := mem_take_iff.1 hd
   exact hn k i _ d (List.getElem?_eq_getElem hl) hid hi
 unfold clustersM clustersM_L1
 exact key h.clusters.length 0 (by omega)
theorem caps_eq {h : Home} (hn : ∀ (k j : Nat) (c d : Cluster), h.clusters[k]? = some c → h.clusters[j]? = some d → j < k → d.name ≠ c.name) (d : Dev) : capsM d (clustersM h) = partsM h d := by
 unfold capsM partsM capsM_L1 partsM_L1
 rw [clusters_eq hn, loopS_congr (c := partsM_B1 h d) fun k a => ?_]
 unfold capsM_B1 partsM_B1
 cases d.clusters[k]? with
 | none => rfl
 | some e =>
  simp only [nIndex_eq]
  rcases rclus_rel h e with ⟨h1, h2⟩ | ⟨j, c, h1, h2, h3⟩
  ·rw [h1, h2]
   rfl
  ·rw [h1, h3]
   have e1 : decide ((j : Int) < 0) = false := decide_eq_false (by omega)
   simp only [e1, Option.isSome_some, cond_true, cond_false, Int.toNat_natCast, h2, Option.getD_some]
theorem numbers_eq (d : Dev) : numbersM d = !((decide (d.id < 1) || (decide (d.id > 250) || (decide (d.vendor < 0) || (decide (d.vendor > 255) || (!d.sleepy && (d.poll != 0)))))) || (d.sleepy && (decide (d.poll < 4) || decide (d.poll > 3600)))) := by
 unfold numbersM
 rw [Bool.eq_iff_iff]
 cases d.sleepy <;> simp only [cond_eq_ite] <;> split <;> simp_all <;> omega
def Euis (h : Home) (k : Nat) (a : List (Int × Bool)) : Prop := ∀ x, ((mget a x).isSome && ((mget a x).getD default)) = decide (∃ j, j < k ∧ ∃ d, h.devices[j]? = some d ∧ d.eui = x)
theorem mget_put {K V : Type} [DecidableEq K] (l : List (K × V)) (k x : K) (v : V) : mget (mput l k v) x = if k = x then some v else mget l x := by
 induction l with
 | nil => simp [mput, mget]
 | cons p r ih =>
  obtain ⟨q, w⟩ := p
  by_cases hq : q = k
  ·subst hq
   by_cases hx : q = x <;> simp [mput, mget, hx]
  ·by_cases hx : q = x
   ·subst hx
    simp [mput, mget, hq, Ne.symm hq]
   ·simp only [mput, if_neg hq, mget, if_neg hx, ih]
theorem dev_eq (h : Home) : devCheckM h = rdevCheckM h := by
  unfold devCheckM rdevCheckM
  rw [all_eq]
  cases ha : (rallM h.clusters != 0) with
  | true => rfl
  | false =>
    simp only [cond_false]
    cases hl : decide ((h.devices.length : Int) > 20) with
    | true => rfl
    | false =>
      simp only [cond_false]
      have hl := of_decide_eq_false hl
      have hn := all_names (l := h.clusters) (by rw [all_eq]; simpa using ha)
      have key := loopS_scan (b := devCheckM_B1 h) (c := rdevCheckM_B1 h) (n := h.devices.length) (Euis h) (fun k a hk hI => ?_) h.devices.length 0 [] (by omega) (fun x => by simp [mget])
      · unfold devCheckM_L1 rdevCheckM_L1
        rcases key with ⟨r, h1, h2⟩ | ⟨a', h1, h2⟩ <;> rw [h1, h2] <;> rfl
      · have he : h.devices[k]? = some h.devices[k] := List.getElem?_eq_getElem hk
        generalize h.devices[k] = e at he
        have hone : rdevCheckM_B1 h k = bif (oneDevM h k != 0) then some (oneDevM h k) else none := rfl
        have step : ∀ a', a' = mput a e.eui true → Euis h (k + 1) a' := by
          rintro _ rfl x
          rw [mget_put]
          by_cases hx : e.eui = x
          · subst hx
            simp only [if_true, Option.isSome_some, Option.getD_some, Bool.and_self]
            exact (decide_eq_true ⟨k, by omega, e, he, rfl⟩).symm
          · simp only [if_neg hx]
            rw [hI x]
            refine decide_eq_decide.2 ⟨fun ⟨j, hj, d, h1, h2⟩ => ⟨j, by omega, d, h1, h2⟩, fun ⟨j, hj, d, h1, h2⟩ => ?_⟩
            rcases Nat.lt_or_ge j k with h | h
            · exact ⟨j, h, d, h1, h2⟩
            · have : j = k := by omega
              subst this
              rw [he] at h1
              cases h1
              exact absurd h2 hx
        have hd1 : decide (∃ j, j < k ∧ ∃ d, h.devices[j]? = some d ∧ d.eui = e.eui) = true → oneDevM_L1 h k e = some 9 := by
          intro hx
          have hx := of_decide_eq_true hx
          unfold oneDevM_L1
          cases hs : scanN (oneDevM_B1 h k e) 0 k with
          | none =>
            obtain ⟨j, hj, d, h1, h2⟩ := hx
            have := scan_at hs hj
            unfold oneDevM_B1 at this
            rw [h1] at this
            simp [h2] at this
          | some r =>
            obtain ⟨j, _, _, hj, _⟩ := scanN_get hs
            unfold oneDevM_B1 at hj
            simp only [cond_eq_ite] at hj
            repeat' split at hj
            all_goals (cases hj <;> rfl)
        have hd2 : decide (∃ j, j < k ∧ ∃ d, h.devices[j]? = some d ∧ d.eui = e.eui) = false → oneDevM_L1 h k e = none := by
          intro hx
          have hx := of_decide_eq_false hx
          refine scan_none fun j hj => ?_
          unfold oneDevM_B1
          cases h1 : h.devices[j]? with
          | none => rfl
          | some d =>
            have : (d.eui == e.eui) = false := by
              cases hb : (d.eui == e.eui) with
              | false => rfl
              | true => exact absurd ⟨j, hj, d, h1, by simpa using hb⟩ hx
            simp only [this, cond_false]
        have hE := hI e.eui
        unfold devCheckM_B1
        rw [hone]
        unfold oneDevM
        simp only [he, numbers_eq, Bool.not_not, hE, valid_eq, caps_eq hn]
        generalize hA : ((decide (e.id < 1) || (decide (e.id > 250) || (decide (e.vendor < 0) || (decide (e.vendor > 255) || (!e.sleepy && (e.poll != 0)))))) || (e.sleepy && (decide (e.poll < 4) || decide (e.poll > 3600)))) = A
        have rest : (∃ r, (bif decide (∃ j, j < k ∧ ∃ d, h.devices[j]? = some d ∧ d.eui = e.eui) then Step.ret 9 else bif !rvalidM e.room then .ret 10 else bif partsM h e != 0 then .ret (partsM h e) else .nxt (mput a e.eui true)) = (.ret r : Step Int (List (Int × Bool))) ∧
            (bif ((oneDevM_L1 h k e).getD (bif !(rvalidM e.room) then 10 else partsM h e)) != 0 then some ((oneDevM_L1 h k e).getD (bif !(rvalidM e.room) then 10 else partsM h e)) else none) = some r) ∨
            (∃ a', (bif decide (∃ j, j < k ∧ ∃ d, h.devices[j]? = some d ∧ d.eui = e.eui) then Step.ret 9 else bif !rvalidM e.room then .ret 10 else bif partsM h e != 0 then .ret (partsM h e) else .nxt (mput a e.eui true)) = (.nxt a' : Step Int (List (Int × Bool))) ∧
            (bif ((oneDevM_L1 h k e).getD (bif !(rvalidM e.room) then 10 else partsM h e)) != 0 then some ((oneDevM_L1 h k e).getD (bif !(rvalidM e.room) then 10 else partsM h e)) else none) = none ∧ Euis h (k + 1) a') := by
          cases hD : decide (∃ j, j < k ∧ ∃ d, h.devices[j]? = some d ∧ d.eui = e.eui) with
          | true =>
            rw [hd1 hD]
            exact .inl ⟨9, rfl, rfl⟩
          | false =>
            rw [hd2 hD]
            cases rvalidM e.room with
            | false => exact .inl ⟨10, rfl, rfl⟩
            | true =>
              simp only [cond_false, Bool.not_true, Option.getD_none]
              cases hp : (partsM h e != 0) with
              | true => exact .inl ⟨_, rfl, rfl⟩
              | false => exact .inr ⟨_, rfl, rfl, step _ rfl⟩
        cases A with
        | true => exact .inl ⟨2, rfl, rfl⟩
        | false =>
          simp only [cond_false]
          cases hk0 : decide ((k : Int) > 0) with
          | false =>
            simp only [cond_false]
            exact rest
          | true =>
            simp only [cond_true]
            have hk0 := of_decide_eq_true hk0
            have hw : (IntKind.i64.wrap ((k : Int) - 1)).toNat = k - 1 := by rw [wrap64_of _ (by omega) (by omega)]; omega
            have hkl : k - 1 < h.devices.length := by omega
            rw [hw, List.getElem?_eq_getElem hkl]
            simp only
            cases hO : decide (e.id ≤ h.devices[k - 1].id) with
            | true =>
              exact .inl ⟨14, rfl, rfl⟩
            | false =>
              simp only [cond_false]
              exact rest
theorem check_l1 {c : Cluster} (h : checkM c = 0) : checkM_L1 c = none := by
 unfold checkM at h
 simp only [cond_eq_ite] at h
 split at h
 ·cases h
 ·split at h
  ·cases h
  ·refine (getD_zero h (scan_ne fun k r hk => ?_)).1
   unfold checkM_B1 at hk
   simp only [cond_eq_ite] at hk
   split at hk
   ·split at hk
    ·rename_i hq
     simp only [Option.some.injEq] at hk
     subst hk
     simpa using hq
    ·obtain ⟨j, _, _, hj, _⟩ := scanN_get hk
     unfold checkM_B2 at hj
     simp only [cond_eq_ite] at hj
     split at hj
     ·split at hj
      ·simp only [Option.some.injEq] at hj
       subst hj; decide
      ·cases hj
     ·cases hj
   ·cases hk
theorem devCheck_all {h : Home} (h0 : devCheckM h = 0) : allM h.clusters = 0 := by
 unfold devCheckM at h0
 simp only [cond_eq_ite] at h0
 split at h0
 ·rename_i hq
  rw [h0] at hq
  exact absurd hq (by decide)
 ·rename_i hq
  simpa using hq
theorem devFind_check {h : Home} {n : Int} (hf : (devFindM h n).2 = true) : devCheckM h = 0 := by
 unfold devFindM at hf
 simp only [cond_eq_ite] at hf
 split at hf
 ·cases hf
 ·rename_i hq
  simpa using hq
theorem clusters_valid {h : Home} (h0 : devCheckM h = 0) {j : Nat} {c : Cluster} (hc : h.clusters[j]? = some c) : checkM c = 0 := (all_spec (devCheck_all h0)).2.1 j c hc
theorem find_fit {h : Home} {n : Int} {x : ByteArray} (hf : (devFindM h n).2 = true) (hg : (mget (clustersM h) x).isSome = true) : FitA ((mget (clustersM h) x).getD default) := by
 have h0 := devFind_check hf
 rw [clusters_eq (all_names (devCheck_all h0))] at hg ⊢
 rcases mget_map (l := h.clusters) (x := x) with ⟨h1, _⟩ | ⟨j, c, h1, h2, _⟩
 ·rw [h1] at hg; cases hg
 ·rw [h1]
  exact check_fit (check_l1 (clusters_valid h0 h2))
theorem fit_zero : FitA (⟨⟨#[]⟩, [], [], []⟩ : Cluster) := fun _ h => nomatch h
theorem loopS_inl {R A : Type} {b : Nat → A → Step R A} : ∀ {m k : Nat} {a : A} {r : R}, loopS b k m a = .inl r → ∃ j a1, b j a1 = .ret r
 | 0, k, a, r, h => by simp [loopS] at h
 | m + 1, k, a, r, h => by
  unfold loopS at h
  split at h
  ·rename_i r' hb
   cases h
   exact ⟨k, a, hb⟩
  ·cases h
  ·exact loopS_inl h
theorem loopS_inr {R A : Type} {b : Nat → A → Step R A} (hb : ∀ k a a', b k a ≠ .brk a') : ∀ {m k : Nat} {a a' : A}, loopS b k m a = .inr a' → ∀ j, k ≤ j → j < k + m → ∃ a1 a2, b j a1 = .nxt a2
 | 0, k, a, a', _, j, h1, h2 => by omega
 | m + 1, k, a, a', h, j, h1, h2 => by
  unfold loopS at h
  split at h
  ·cases h
  ·rename_i hk
   exact absurd hk (hb _ _ _)
  ·rename_i a2 hk
   rcases Nat.lt_or_ge k j with h3 | h3
   ·exact loopS_inr hb h j (by omega) (by omega)
   ·have : j = k := by omega
    subst this
    exact ⟨_, _, hk⟩
theorem parts_in {h : Home} {d : Dev} (hp : partsM h d = 0) {k : Nat} {x : ByteArray} (hx : d.clusters[k]? = some x) : 0 ≤ rclusM h x := by
 unfold partsM at hp
 simp only [cond_eq_ite] at hp
 split at hp
 ·cases hp
 ·split at hp
  ·rename_i r hr
   subst hp
   obtain ⟨j, a, hj⟩ := loopS_inl hr
   unfold partsM_B1 at hj
   simp only [cond_eq_ite] at hj
   repeat' split at hj
   all_goals cases hj
  ·rename_i a' hr
   obtain ⟨a1, a2, hj⟩ := loopS_inr (b := partsM_B1 h d) (fun k a a' hb => by
    unfold partsM_B1 at hb
    simp only [cond_eq_ite] at hb
    repeat' split at hb
    all_goals cases hb) hr k (Nat.zero_le _) (by have := getElem_lt hx; omega)
   unfold partsM_B1 at hj
   simp only [hx, cond_eq_ite] at hj
   split at hj
   ·cases hj
   ·rename_i hq
    simp at hq
    omega
theorem dev_len {h : Home} (h0 : rdevCheckM h = 0) : h.devices.length ≤ 20 := by
 unfold rdevCheckM at h0
 simp only [cond_eq_ite] at h0
 split at h0
 ·rename_i hq; rw [h0] at hq; exact absurd hq (by decide)
 ·split at h0
  ·cases h0
  ·rename_i hq
   simp at hq
   omega
theorem one_all {h : Home} (h0 : rdevCheckM h = 0) {j : Nat} (hj : j < h.devices.length) : oneDevM h j = 0 := by
 unfold rdevCheckM at h0
 simp only [cond_eq_ite] at h0
 split at h0
 ·rename_i hq; rw [h0] at hq; exact absurd hq (by decide)
 ·split at h0
  ·cases h0
  ·have h1 := (getD_zero h0 (scan_ne fun k r hk => by
    unfold rdevCheckM_B1 at hk
    simp only [cond_eq_ite] at hk
    split at hk
    ·rename_i hq
     simp only [Option.some.injEq] at hk
     subst hk
     simpa using hq
    ·cases hk)).1
   have := scan_at h1 hj
   unfold rdevCheckM_B1 at this
   simp only [cond_eq_ite] at this
   split at this
   ·cases this
   ·rename_i hq
    simpa using hq
theorem one_spec {h : Home} (hl : h.devices.length ≤ 20) {j : Nat} {d : Dev} (hd : h.devices[j]? = some d) (h1 : oneDevM h j = 0) :
    partsM h d = 0 ∧ 1 ≤ d.id ∧ d.id ≤ 250 ∧ ∀ e, 0 < j → h.devices[j - 1]? = some e → e.id < d.id := by
  have hj := getElem_lt hd
  have tail : (oneDevM_L1 h j d).getD (if (!rvalidM d.room) = true then 10 else partsM h d) = 0 → partsM h d = 0 := by
    intro h2
    have h3 := (getD_zero h2 (scan_ne fun k r hk => by
      unfold oneDevM_B1 at hk
      simp only [cond_eq_ite] at hk
      repeat' split at hk
      all_goals first
        | cases hk; done
        | (cases hk; decide))).2
    split at h3
    · cases h3
    · exact h3
  unfold oneDevM at h1
  simp only [hd, cond_eq_ite] at h1
  split at h1
  · cases h1
  · rename_i hr
    simp only [Bool.or_eq_true, decide_eq_true_eq, not_or, Int.not_lt] at hr
    have hr1 : 1 ≤ d.id ∧ d.id ≤ 250 := by omega
    split at h1
    · rename_i hp
      have hp := of_decide_eq_true hp
      have e1 : (IntKind.i64.wrap ((j : Int) - 1)).toNat = j - 1 := by rw [wrap64_of _ (by omega) (by omega)]; omega
      rw [e1] at h1
      split at h1
      · rename_i e he
        split at h1
        · cases h1
        · rename_i hq
          simp only [decide_eq_true_eq, ge_iff_le, Int.not_le] at hq
          exact ⟨tail h1, hr1.1, hr1.2, fun e' _ he' => by rw [he] at he'; cases he'; exact hq⟩
      · rename_i he
        rw [List.getElem?_eq_none_iff] at he
        omega
    · rename_i hp
      simp only [decide_eq_true_eq] at hp
      exact ⟨tail h1, hr1.1, hr1.2, fun e' h2 _ => by omega⟩
theorem part_pos {h : Home} {x : ByteArray} {j : Nat} {d : Dev} (h0 : rdevCheckM h = 0) (hd : h.devices[j]? = some d) (hi : 0 ≤ r04IndexM d.clusters x) : 0 ≤ rclusM h x := by
 have hp := (one_spec (dev_len h0) hd (one_all h0 (getElem_lt hd))).1
 unfold r04IndexM at hi
 cases hs : r04IndexM_L1 d.clusters x with
 | none => rw [hs] at hi; simp at hi
 | some r =>
  obtain ⟨k, _, _, hk, _⟩ := scanN_get hs
  unfold r04IndexM_B1 at hk
  simp only [cond_eq_ite] at hk
  split at hk
  ·rename_i e he
   split at hk
   ·rename_i hq
    have := beqS_true.1 hq
    subst this
    exact parts_in hp he
   ·cases hk
  ·cases hk
theorem find_fitD {h : Home} {n : Int} {x : ByteArray} (hf : (devFindM h n).2 = true) : FitA ((mget (clustersM h) x).getD (⟨⟨#[]⟩, [], [], []⟩ : Cluster)) := by
 cases hm : mget (clustersM h) x with
 | none => exact fit_zero
 | some c =>
  have := find_fit (x := x) hf (by rw [hm]; rfl)
  rw [hm] at this
  exact this
theorem devFind_mem {h : Home} {n : Int} (hf : (devFindM h n).2 = true) : (devFindM h n).1 ∈ h.devices ∧ (devFindM h n).1.id = n := by
 have h0 := devFind_check hf
 unfold devFindM at hf ⊢
 rw [h0] at hf ⊢
 simp only [bne_self_eq_false, cond_false] at hf ⊢
 cases hs : devFindM_L1 h n with
 | none => rw [hs] at hf; cases hf
 | some r =>
  obtain ⟨j, _, _, hj, _⟩ := scanN_get hs
  unfold devFindM_B1 at hj
  cases he : h.devices[j]? with
  | none => rw [he] at hj; cases hj
  | some d =>
   rw [he] at hj
   simp only [cond_eq_ite] at hj
   split at hj
   ·rename_i hq
    cases hj
    exact ⟨List.mem_of_getElem? he, by simpa using hq⟩
   ·cases hj
theorem devFind_none {h : Home} {n : Int} (hf : (devFindM h n).2 = false) : (devFindM h n).1.clusters = [] := by
 unfold devFindM at hf ⊢
 cases hc : (devCheckM h != 0) with
 | true => rfl
 | false =>
  rw [hc] at hf
  simp only [cond_false] at hf ⊢
  cases hs : devFindM_L1 h n with
  | none => rfl
  | some r =>
   rw [hs] at hf
   obtain ⟨j, _, _, hj, _⟩ := scanN_get hs
   unfold devFindM_B1 at hj
   cases he : h.devices[j]? with
   | none => rw [he] at hj; cases hj
   | some d =>
    rw [he] at hj
    simp only [cond_eq_ite] at hj
    split at hj
    ·cases hj; cases hf
    ·cases hj
theorem caps_len {d : Dev} {m : List (ByteArray × Cluster)} (h : capsM d m = 0) : d.clusters.length ≤ 4 := by
 unfold capsM at h
 simp only [cond_eq_ite] at h
 split at h
 ·cases h
 ·rename_i hq
  simp at hq
  omega
theorem dev_caps {h : Home} (h0 : devCheckM h = 0) {j : Nat} {d : Dev} (hd : h.devices[j]? = some d) : capsM d (clustersM h) = 0 := by
  unfold devCheckM at h0
  simp only [cond_eq_ite] at h0
  split at h0
  · rename_i hq; rw [h0] at hq; exact absurd hq (by decide)
  · split at h0
    · cases h0
    · rename_i h20
      simp only [decide_eq_true_eq, Int.not_lt, gt_iff_lt] at h20
      split at h0
      · rename_i r hr
        subst h0
        obtain ⟨j1, a, hj⟩ := loopS_inl hr
        unfold devCheckM_B1 at hj
        dsimp only at hj
        simp only [cond_eq_ite] at hj
        repeat' split at hj
        all_goals first
          | (cases hj; done)
          | (rename_i hq; simp only [Step.ret.injEq] at hj; rw [hj] at hq; exact absurd hq (by decide))
      · rename_i a' hr
        obtain ⟨a1, a2, hj⟩ := loopS_inr (b := devCheckM_B1 h) (fun k a a' hb => by
          unfold devCheckM_B1 at hb
          dsimp only at hb
          simp only [cond_eq_ite] at hb
          repeat' split at hb
          all_goals cases hb) hr j (Nat.zero_le _) (by have := getElem_lt hd; omega)
        unfold devCheckM_B1 at hj
        dsimp only at hj
        have hlt := getElem_lt hd
        have hw : (IntKind.i64.wrap ((j : Int) - 1)).toNat < h.devices.length := by
          rw [wrap64_of _ (by omega) (by omega)]; omega
        rw [hd] at hj
        simp only [cond_eq_ite, List.getElem?_eq_getElem hw] at hj
        repeat' split at hj
        all_goals first
          | (cases hj; done)
          | (have hq : ¬ (capsM d (clustersM h) != 0) = true := by assumption
             simpa using hq)
theorem wide_attrs {c : Cluster} (h : checkM c = 0) : c.attrs.length ≤ 12 := by
 unfold checkM at h
 simp only [cond_eq_ite] at h
 split at h
 ·cases h
 ·split at h
  ·cases h
  ·rename_i hq
   unfold wideM at hq
   cases hw : wideM_L1 c with
   | some b =>
    obtain ⟨j, _, _, hj, _⟩ := scanN_get hw
    unfold wideM_B1 at hj
    simp only [cond_eq_ite] at hj
    repeat' split at hj
    all_goals first | (cases hj; done) | (cases hj; rw [hw] at hq; exact absurd rfl hq)
   | none =>
    rw [hw] at hq
    simp at hq
    omega
theorem key_attrs {h : Home} {n : Int} {k : Nat} {e x : ByteArray} (he : (devFindM h n).1.clusters[k]? = some e) : ((mget (clustersM h) x).getD (⟨⟨#[]⟩, [], [], []⟩ : Cluster)).attrs.length ≤ 12 := by
 cases hf : (devFindM h n).2 with
 | false => rw [devFind_none hf] at he; cases he
 | true =>
  have h0 := devFind_check hf
  rw [clusters_eq (all_names (devCheck_all h0))]
  rcases mget_map (l := h.clusters) (x := x) with ⟨h1, _⟩ | ⟨j, c, h1, h2, _⟩
  ·rw [h1]; exact Nat.zero_le _
  ·rw [h1]; exact wide_attrs (clusters_valid h0 h2)
theorem key_clusters (h : Home) (n : Int) : (devFindM h n).1.clusters.length ≤ 4 := by
 cases hf : (devFindM h n).2 with
 | false => rw [devFind_none hf]; exact Nat.zero_le _
 | true =>
  obtain ⟨j, hj⟩ := List.getElem?_of_mem (devFind_mem hf).1
  exact caps_len (dev_caps (devFind_check hf) hj)
end Go.Proofs.YtnnlaccdendkpaaGreat
