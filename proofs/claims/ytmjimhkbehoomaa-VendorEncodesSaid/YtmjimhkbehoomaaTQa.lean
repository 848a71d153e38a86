/- Clusters: the program and the reference check the same. Conditions: none. -/
import Derived.Test.YtmjimhkbehoomaaTA7
import Derived.Laws.RangeString
import Derived.Laws.RangeAny
namespace Go.Proofs.Ytmjimhkbehoomaa
open Go Go.Av Go.Hh Go.Proofs
theorem bz {a : Int} (h : (a != 0) = false) : a = 0 := by simpa using h
theorem getD_zero {o : Option Int} {d : Int} (h : o.getD d = 0) (hn : ∀ r, o = some r → r ≠ 0) : o = none ∧ d = 0 := by
  cases o with
  | none => exact ⟨rfl, h⟩
  | some r => exact absurd h (hn r rfl)

theorem beqS_comm (a b : ByteArray) : beqS a b = beqS b a := by rw [beqS_eq, beqS_eq]; exact decide_eq_decide.2 eq_comm
theorem beqS_refl (a : ByteArray) : beqS a a = true := by rw [beqS_eq]; simp
theorem scan_none {R : Type} {b : Nat → Option R} {n : Nat} (h : ∀ j, j < n → b j = none) : scanN b 0 n = none := scanN_all.2 fun j _ hj => h j (by omega)
theorem scan_at {R : Type} {b : Nat → Option R} {n : Nat} (h : scanN b 0 n = none) {j : Nat} (hj : j < n) : b j = none := scanN_all.1 h j (Nat.zero_le _) (by omega)
theorem getElem_lt {α : Type} {l : List α} {k : Nat} {e : α} (h : l[k]? = some e) : k < l.length := (List.getElem?_eq_some_iff.1 h).1
theorem scan_eq {R : Type} {b c : Nat → Option R} {n : Nat} (h : ∀ j, j < n → b j = c j) : scanN b 0 n = scanN c 0 n := scanN_congr fun j _ hj => h j (by omega)

theorem valid_scan (x : ByteArray) : ∀ (m k : Nat), x.size - k ≤ m → scanR x (validM_B1 x) m k = scanN (rvalidM_B1 x) k (x.size - k)
  | 0, k, h => by rw [show x.size - k = 0 from by omega]; rfl
  | m + 1, k, h => by
    by_cases hk : k < x.size
    · simp only [scanR, hk, if_true]
      rw [show x.size - k = (x.size - (k + 1)) + 1 from by omega]
      simp only [scanN]
      have hl : x.data.toList[k]? = some (x[k]'hk) := by
        have : k < x.data.toList.length := by simpa using hk
        rw [List.getElem?_eq_getElem this]; rfl
      have hb : validM_B1 x k = rvalidM_B1 x k ∧ (validM_B1 x k = none → (Utf8.decode x k).2 = 1) := by
        rcases Nat.lt_or_ge (x[k]'hk).toNat 128 with ha | ha
        · have hd := decode_ascii x k hk ha
          constructor
          · unfold validM_B1 rvalidM_B1 letterM
            simp only [hl, hd]
          · intro _; rw [hd]
        · have hd := (decode_high x k hk ha).1
          have e1 : validM_B1 x k = some false := by
            unfold validM_B1 letterM
            generalize (Utf8.decode x k).1 = c at hd
            have h1 : decide ((c : Int) ≤ 122) = false := decide_eq_false (by omega)
            have h2 : ((c : Int) != 95) = true := by simp; omega
            have h3 : ((c : Int) != 45) = true := by simp; omega
            have h4 : decide ((c : Int) > 57) = true := decide_eq_true (by omega)
            simp only [h1, h2, h3, h4, Bool.and_false, Bool.not_false, Bool.and_true, Bool.or_true, Bool.true_and, cond_true]
          have e2 : rvalidM_B1 x k = some false := by
            unfold rvalidM_B1
            rw [hl]
            simp only
            generalize (x[k]'hk).toNat = c at ha
            have h1 : decide ((c : Int) ≤ 122) = false := decide_eq_false (by omega)
            have h2 : ((c : Int) != 95) = true := by simp; omega
            have h3 : ((c : Int) != 45) = true := by simp; omega
            have h4 : decide ((c : Int) > 57) = true := decide_eq_true (by omega)
            simp only [h1, h2, h3, h4, Bool.and_false, Bool.not_false, Bool.and_true, Bool.or_true, Bool.true_and, cond_true]
          exact ⟨e1.trans e2.symm, fun h => by rw [e1] at h; cases h⟩
      rw [hb.1]
      cases hr : rvalidM_B1 x k with
      | some r => rfl
      | none =>
        simp only
        rw [hb.2 (hb.1.trans hr)]
        exact valid_scan x m (k + 1) (by omega)
    · simp [scanR, hk, show x.size - k = 0 from by omega, scanN]
theorem valid_eq (x : ByteArray) : validM x = rvalidM x := by
  unfold validM rvalidM
  have : validM_L1 x = rvalidM_L1 x := by
    unfold validM_L1 rvalidM_L1
    rw [valid_scan x x.size 0 (by omega)]
    rfl
  rw [this]

theorem wide_eq (c : Cluster) : wideM c = tooManyM c := by
  unfold wideM tooManyM
  have h1 : wideM_L1 c = tooManyM_L1 c := rfl
  rw [h1]
  cases h : tooManyM_L1 c with
  | none => simp
  | some r =>
    obtain ⟨k, _, _, hk, _⟩ := scanN_get h
    unfold tooManyM_B1 at hk
    simp only [cond_eq_ite] at hk
    split at hk
    · split at hk
      · simp only [Option.some.injEq] at hk
        subst hk
        simp
      · cases hk
    · cases hk

theorem beqS_true {a b : ByteArray} : beqS a b = true ↔ a = b := by rw [beqS_eq]; simp
theorem beqS_false {a b : ByteArray} : beqS a b = false ↔ a ≠ b := by rw [beqS_eq]; simp

theorem rmember_iff (l : List ByteArray) (x : ByteArray) : rmemberM l x = true ↔ x ∈ l := by
  unfold rmemberM
  cases h : rmemberM_L1 l x with
  | none =>
    refine ⟨fun h => (by cases h), fun hx => ?_⟩
    obtain ⟨k, hk, rfl⟩ := List.mem_iff_getElem.1 hx
    have := scan_at h hk
    unfold rmemberM_B1 at this
    rw [List.getElem?_eq_getElem hk] at this
    simp only [beqS_refl, cond_true] at this
    cases this
  | some r =>
    obtain ⟨k, _, _, hk, _⟩ := scanN_get h
    unfold rmemberM_B1 at hk
    simp only [cond_eq_ite] at hk
    split at hk
    · rename_i e he
      split at hk
      · rename_i hb
        simp only [Option.some.injEq] at hk
        subst hk
        rw [beqS_true] at hb
        subst hb
        exact ⟨fun _ => List.mem_of_getElem? he, fun _ => rfl⟩
      · cases hk
    · cases hk
theorem sIndex_cases (l : List ByteArray) (x : ByteArray) : (sIndexM l x = -1 ∧ x ∉ l) ∨ ∃ j : Nat, sIndexM l x = (j : Int) ∧ l[j]? = some x ∧ ∀ i, i < j → l[i]? ≠ some x := by
  unfold sIndexM
  cases h : sIndexM_L1 l x with
  | none =>
    refine .inl ⟨rfl, fun hx => ?_⟩
    obtain ⟨k, hk, rfl⟩ := List.mem_iff_getElem.1 hx
    have := scan_at h hk
    unfold sIndexM_B1 at this
    rw [List.getElem?_eq_getElem hk] at this
    simp only [beqS_refl, cond_true] at this
    cases this
  | some r =>
    obtain ⟨k, _, _, hk, hno⟩ := scanN_get h
    unfold sIndexM_B1 at hk
    simp only [cond_eq_ite] at hk
    split at hk
    · rename_i e he
      split at hk
      · rename_i hb
        simp only [Option.some.injEq] at hk
        subst hk
        rw [beqS_true] at hb
        subst hb
        refine .inr ⟨k, rfl, he, fun i hi hx => ?_⟩
        have := hno i (Nat.zero_le _) hi
        unfold sIndexM_B1 at this
        rw [hx] at this
        simp only [beqS_refl, cond_true] at this
        cases this
      · cases hk
    · cases hk
theorem sCont_iff (l : List ByteArray) (x : ByteArray) : sContM l x = true ↔ x ∈ l := by
  unfold sContM
  rcases sIndex_cases l x with ⟨h1, h2⟩ | ⟨j, h1, h2, _⟩
  · rw [h1]
    exact ⟨fun h => by simp at h, fun h => absurd h h2⟩
  · rw [h1]
    exact ⟨fun _ => List.mem_of_getElem? h2, fun _ => decide_eq_true (by omega)⟩
theorem mem_take_iff {α : Type} {l : List α} {k : Nat} {x : α} : x ∈ l.take k ↔ ∃ i, i < k ∧ l[i]? = some x := by
  rw [List.mem_iff_getElem?]
  constructor
  · rintro ⟨i, hi⟩
    rw [List.getElem?_take] at hi
    split at hi
    · rename_i h; exact ⟨i, h, hi⟩
    · cases hi
  · rintro ⟨i, h, hi⟩
    exact ⟨i, by rw [List.getElem?_take, if_pos h]; exact hi⟩
theorem sIndex_lt {l : List ByteArray} {k : Nat} {e : ByteArray} (he : l[k]? = some e) : decide (nIndexM l e < (k : Int)) = rmemberM (l.take k) e := by
  unfold nIndexM
  rw [Bool.eq_iff_iff, decide_eq_true_eq, rmember_iff, mem_take_iff]
  rcases sIndex_cases l e with ⟨_, h2⟩ | ⟨j, h1, h2, h3⟩
  · exact absurd (List.mem_of_getElem? he) h2
  · rw [h1]
    constructor
    · intro h; exact ⟨j, by omega, h2⟩
    · rintro ⟨i, hi, hx⟩
      rcases Nat.lt_or_ge i j with h | h
      · exact absurd hx (h3 i h)
      · omega

theorem sameNames_eq (l m : List ByteArray) : sameNamesM l m = decide (l = m) := by
  unfold sameNamesM
  simp only [cond_eq_ite]
  split
  · rename_i h
    refine (decide_eq_false fun e => ?_).symm
    subst e
    simp at h
  · rename_i h
    have hl : l.length = m.length := by simp at h; omega
    cases h1 : sameNamesM_L1 l m with
    | none =>
      refine (decide_eq_true ?_).symm
      apply List.ext_getElem hl
      intro i h2 h3
      have := scan_at h1 h2
      unfold sameNamesM_B1 at this
      rw [List.getElem?_eq_getElem h2, List.getElem?_eq_getElem h3] at this
      simp only [cond_eq_ite] at this
      split at this
      · cases this
      · rename_i h4
        simp only [Bool.not_eq_true', beqS_eq, decide_eq_false_iff_not, Decidable.not_not] at h4
        exact h4
    | some r =>
      obtain ⟨k, _, _, hk, _⟩ := scanN_get h1
      unfold sameNamesM_B1 at hk
      simp only [cond_eq_ite] at hk
      split at hk
      · rename_i a ha
        split at hk
        · rename_i b hb
          split at hk
          · rename_i hne
            simp only [Option.some.injEq] at hk
            subst hk
            refine (decide_eq_false fun e => ?_).symm
            subst e
            rw [ha] at hb
            cases hb
            simp [beqS_refl] at hne
          · cases hk
        · cases hk
      · cases hk
theorem sEqual_eq (l m : List ByteArray) : sEqualM l m = decide (l = m) := (show sEqualM l m = sameNamesM l m from rfl).trans (sameNames_eq l m)

theorem members_eq (a : Attr) : membersM a.enum = (bif (decide (((a.enum.length : Nat) : Int) < 1) || decide (((a.enum.length : Nat) : Int) > 64)) then 3 else (rdefM_L1 a).getD 0) := by
  unfold membersM
  have : membersM_L1 a.enum = rdefM_L1 a := scan_eq fun j hj => by
    unfold membersM_B1 rdefM_B1
    have he : a.enum[j]? = some a.enum[j] := List.getElem?_eq_getElem hj
    rw [he]
    simp only
    rw [valid_eq, sIndex_lt he]
  rw [this]
theorem def_eq (a : Attr) : defM a = rdefM a := by
  unfold defM rdefM
  rw [valid_eq, members_eq]
  simp only [cond_eq_ite]
  have hr : ((!(inRangeM a.min) || !(inRangeM a.max)) || decide (a.min > a.max)) = ((decide (a.min < -1099511627776) || decide (a.max > 1099511627776)) || decide (a.min > a.max)) := by
    unfold inRangeM
    rw [Bool.eq_iff_iff]
    simp only [Bool.or_eq_true, Bool.not_eq_true', Bool.and_eq_false_iff, decide_eq_false_iff_not, decide_eq_true_eq]
    omega
  rw [hr]
  by_cases h3 : a.kind = 3
  · simp [h3]
  · simp [h3]
theorem ite_iff {α : Type} {p q : Prop} [Decidable p] [Decidable q] {a b : α} (h : p ↔ q) : (if p then a else b) = if q then a else b := by
  by_cases hp : p
  · rw [if_pos hp, if_pos (h.1 hp)]
  · rw [if_neg hp, if_neg fun hq => hp (h.2 hq)]
theorem ite_swap {α : Type} {p q : Prop} [Decidable p] [Decidable q] {a b : α} (h : p ↔ ¬ q) : (if p then a else b) = if q then b else a := by
  by_cases hq : q
  · rw [if_pos hq, if_neg fun hp => h.1 hp hq]
  · rw [if_neg hq, if_pos (h.2 hq)]
theorem vcheck_eq (v : Val) : vCheckM v = rvCheckM v := by
  unfold vCheckM rvCheckM inRangeM
  simp only [cond_eq_ite]
  by_cases h0 : v.kind = 0
  · simp [h0]
    apply ite_swap
    omega
  by_cases h4 : v.kind = 4
  · simp [h4]
    apply ite_swap
    omega
  by_cases h1 : v.kind = 1
  · simp [h1]
    apply ite_iff
    omega
  by_cases h2 : v.kind = 2
  · simp [h2]
  by_cases h3 : v.kind = 3
  · simp [h3]
  · simp [h0, h1, h2, h3, h4]
theorem fits_eq (a : Attr) (v : Val) : fitsM a v = rfitsM a v := by
  unfold fitsM rfitsM
  rw [def_eq, vcheck_eq]
theorem scan_first {R : Type} {b : Nat → Option R} {n j : Nat} {r : R} (hj : j < n) (hb : b j = some r) (hno : ∀ i, i < j → b i = none) : scanN b 0 n = some r := by
  cases h : scanN b 0 n with
  | none => rw [scan_at h hj] at hb; cases hb
  | some r' =>
    obtain ⟨k, _, _, hk, hk2⟩ := scanN_get h
    rcases Nat.lt_trichotomy k j with h1 | h1 | h1
    · rw [hno k h1] at hk; cases hk
    · subst h1; rw [hb] at hk; rw [hk]
    · rw [hk2 j (Nat.zero_le _) h1] at hb; cases hb

theorem place_cases (c : Cluster) (x : ByteArray) : (placeM c x = -1 ∧ ∀ (j : Nat) (a : Attr), c.attrs[j]? = some a → a.name ≠ x) ∨
    ∃ (j : Nat) (a : Attr), placeM c x = (j : Int) ∧ c.attrs[j]? = some a ∧ a.name = x ∧ ∀ (i : Nat) (b : Attr), i < j → c.attrs[i]? = some b → b.name ≠ x := by
  unfold placeM
  have hnone : ∀ {j : Nat} {a : Attr}, c.attrs[j]? = some a → placeM_B1 c x j = none → a.name ≠ x := by
    intro j a ha hb he
    unfold placeM_B1 at hb
    rw [ha] at hb
    subst he
    simp only [beqS_refl, cond_true] at hb
    cases hb
  cases h : placeM_L1 c x with
  | none => exact .inl ⟨rfl, fun j a ha => hnone ha (scan_at h (getElem_lt ha))⟩
  | some r =>
    obtain ⟨k, _, _, hk, hno⟩ := scanN_get h
    unfold placeM_B1 at hk
    simp only [cond_eq_ite] at hk
    split at hk
    · rename_i e he
      split at hk
      · rename_i hb
        simp only [Option.some.injEq] at hk
        subst hk
        exact .inr ⟨k, e, rfl, he, beqS_true.1 hb, fun i b hi hb => hnone hb (hno i (Nat.zero_le _) hi)⟩
      · cases hk
    · cases hk

theorem attr_eq (c : Cluster) (x : ByteArray) : attrM c x = rattrM c x := by
  unfold attrM rattrM
  rcases place_cases c x with ⟨h1, h2⟩ | ⟨j, a, h1, h2, h3, h4⟩
  · have : attrM_L1 c x = none := scan_none fun j hj => by
      unfold attrM_B1
      rw [List.getElem?_eq_getElem hj]
      simp only
      rw [beqS_false.2 (h2 j _ (List.getElem?_eq_getElem hj))]
      rfl
    rw [this, h1]
    rfl
  · have : attrM_L1 c x = some (a, true) := scan_first (getElem_lt h2) (by
      unfold attrM_B1
      rw [h2]
      simp only
      rw [beqS_true.2 h3]
      rfl) fun i hi => by
      unfold attrM_B1
      have hil : i < c.attrs.length := Nat.lt_trans hi (getElem_lt h2)
      rw [List.getElem?_eq_getElem hil]
      simp only
      rw [beqS_false.2 (h4 i _ hi (List.getElem?_eq_getElem hil))]
      rfl
    rw [this, h1]
    have : decide ((j : Int) < 0) = false := decide_eq_false (by omega)
    rw [this]
    simp only [cond_false, Int.toNat_natCast, h2]
    rfl
theorem zero_eq (a : Attr) : zeroM a = sameAttrM a (⟨⟨#[]⟩, 0, 0, 0, [], false, false⟩ : Attr) := by
  unfold zeroM sameAttrM
  rw [sameNames_eq]
  have h : (((a.enum.length : Nat) : Int) == 0) = decide (a.enum = []) := by
    rw [Bool.eq_iff_iff]; simp
  rw [h]
  cases a.writable <;> cases a.safety <;> simp

theorem sat_ne (n : Int) : (satM n != n) = (decide (n < -1099511627776) || decide (n > 1099511627776)) := by
  unfold satM
  rw [Bool.eq_iff_iff]
  simp only [bne_iff_ne, Bool.or_eq_true, decide_eq_true_eq]
  split <;> split <;> omega

theorem suits_eq (x : Effect) (a b : Attr) : suitsM x a b = rsuitsM x a b := by
  unfold suitsM rsuitsM alikeM
  rw [fits_eq, sEqual_eq, sameNames_eq]
  have h1 : (a.kind == b.kind) = (b.kind == a.kind) := by rw [Bool.eq_iff_iff]; simp; exact eq_comm
  have h2 : decide (a.enum = b.enum) = decide (b.enum = a.enum) := decide_eq_decide.2 eq_comm
  rw [h1, h2]

theorem effect_eq (c : Cluster) (b : Attr) (x : Effect) : effectM c b x = reffectM c b x := by
  unfold effectM reffectM
  rw [attr_eq, suits_eq, sat_ne]

theorem numbered_eq (c : Cluster) {i : Nat} (hi : i < c.commands.length) : numberedM c i = oneM c i := by
  unfold numberedM oneM
  have he : c.commands[i]? = some c.commands[i] := List.getElem?_eq_getElem hi
  rw [he]
  simp only
  have h1 : numberedM_L1 c i c.commands[i] = oneM_L1 c i c.commands[i] := by
    unfold numberedM_L1 oneM_L1
    rw [List.length_take, Nat.min_eq_left (Nat.le_of_lt hi)]
    exact scan_eq fun j hj => by
      unfold numberedM_B1 oneM_B1
      rw [List.getElem?_take, if_pos hj]
  have h2 : numberedM_L2 c i c.commands[i] = oneM_L2 c i c.commands[i] := scan_eq fun j hj => by
    unfold numberedM_B2 oneM_B2
    rw [List.getElem?_eq_getElem hj]
    simp only
    rw [effect_eq]
  rw [h1, h2, valid_eq, def_eq, zero_eq]

open Classical in
/-- A loop that looks for a name among the first ones. -/
theorem dup_scan {α : Type} {l : List α} (name : α → ByteArray) (x : ByteArray) (k : Nat) (b : Nat → Option Int) (hb : ∀ (j : Nat) (e : α), j < k → l[j]? = some e → b j = bif beqS (name e) x then some 9 else none) (hk : k ≤ l.length) :
    scanN b 0 k = if ∃ (j : Nat) (e : α), j < k ∧ l[j]? = some e ∧ name e = x then some 9 else none := by
  split
  · rename_i h
    obtain ⟨j, e, h1, h2, h3⟩ := h
    cases hs : scanN b 0 k with
    | none =>
      have := scan_at hs h1
      rw [hb j e h1 h2, beqS_true.2 h3] at this
      cases this
    | some r =>
      obtain ⟨i, _, hi2, hi, _⟩ := scanN_get hs
      have hil : i < l.length := by omega
      rw [hb i l[i] (by omega) (List.getElem?_eq_getElem hil)] at hi
      cases hq : beqS (name l[i]) x <;> rw [hq] at hi
      · cases hi
      · exact hi.symm
  · rename_i h
    refine scan_none fun j hj => ?_
    have hjl : j < l.length := by omega
    rw [hb j l[j] hj (List.getElem?_eq_getElem hjl)]
    rw [beqS_false.2 fun he => h ⟨j, l[j], hj, List.getElem?_eq_getElem hjl, he⟩]
    rfl

theorem attrs_eq (c : Cluster) : checkM_L1 c = rcheckM_L1 c := scan_eq fun j hj => by
  unfold checkM_B1 rcheckM_B1
  have he : c.attrs[j]? = some c.attrs[j] := List.getElem?_eq_getElem hj
  rw [he]
  simp only
  rw [def_eq]
  have h2 : checkM_L2 c j c.attrs[j] = (bif decide (placeM c c.attrs[j].name < (j : Int)) then some 9 else none) := by
    unfold checkM_L2
    rw [List.length_take, Nat.min_eq_left (Nat.le_of_lt hj), dup_scan (l := c.attrs) (·.name) c.attrs[j].name j _ (fun i e hi hie => by
      unfold checkM_B2
      rw [List.getElem?_take, if_pos hi, hie]) (Nat.le_of_lt hj), cond_eq_ite]
    rcases place_cases c c.attrs[j].name with ⟨_, g2⟩ | ⟨i, a, g1, g2, g3, g4⟩
    · exact absurd rfl (g2 j _ he)
    · rw [g1]
      by_cases hij : i < j
      · rw [if_pos ⟨i, a, hij, g2, g3⟩, if_pos (by simpa using hij)]
      · rw [if_neg, if_neg (by simp; omega)]
        rintro ⟨q, e, hq, hqe, hn⟩
        exact g4 q e (by omega) hqe hn
  rw [h2]
theorem commands_eq (c : Cluster) : checkM_L3 c = rcheckM_L2 c := scan_eq fun j hj => by
  unfold checkM_B3 rcheckM_B2
  rw [numbered_eq c hj]
theorem events_eq (c : Cluster) : checkM_L4 c = rcheckM_L3 c := scan_eq fun j hj => by
  unfold checkM_B4 rcheckM_B3
  have he : c.events[j]? = some c.events[j] := List.getElem?_eq_getElem hj
  rw [he]
  simp only
  rw [valid_eq]
  have h2 : rcheckM_L4 c j c.events[j] = (bif sContM (c.events.take j) c.events[j] then some 9 else none) := by
    unfold rcheckM_L4
    rw [dup_scan (l := c.events) id c.events[j] j _ (fun i e hi hie => by
      unfold rcheckM_B4
      rw [hie]
      rfl) (Nat.le_of_lt hj), cond_eq_ite]
    have : (∃ (i : Nat) (e : ByteArray), i < j ∧ c.events[i]? = some e ∧ id e = c.events[j]) ↔ c.events[j] ∈ c.events.take j := by
      rw [mem_take_iff]
      constructor
      · rintro ⟨i, e, h1, h2, rfl⟩; exact ⟨i, h1, h2⟩
      · rintro ⟨i, h1, h2⟩; exact ⟨i, _, h1, h2, rfl⟩
    by_cases hm : c.events[j] ∈ c.events.take j
    · rw [if_pos (this.2 hm), (sCont_iff _ _).2 hm]; rfl
    · rw [if_neg (fun h => hm (this.1 h)), Bool.eq_false_iff.2 (fun h => hm ((sCont_iff _ _).1 h))]; rfl
  rw [h2]
theorem check_eq (c : Cluster) : checkM c = rcheckM c := by
  unfold checkM rcheckM
  rw [valid_eq, wide_eq, attrs_eq, commands_eq, events_eq]
theorem all_eq (l : List Cluster) : allM l = rallM l := by
  unfold allM rallM
  have h : allM_L1 l = rallM_L1 l := scan_eq fun j hj => by
    unfold allM_B1 rallM_B1
    rw [List.getElem?_eq_getElem hj]
    simp only
    rw [check_eq]
    have h2 : allM_L2 l j l[j] = rallM_L2 l j l[j] := by
      unfold allM_L2 rallM_L2
      rw [List.length_take, Nat.min_eq_left (Nat.le_of_lt hj)]
      exact scan_eq fun i hi => by
        unfold allM_B2 rallM_B2
        rw [List.getElem?_take, if_pos hi]
    rw [h2]
  rw [h]

theorem scan_ne {b : Nat → Option Int} {n : Nat} (h : ∀ k r, b k = some r → r ≠ 0) : ∀ r, scanN b 0 n = some r → r ≠ 0 := fun r hr => by
  obtain ⟨k, _, _, hk, _⟩ := scanN_get hr
  exact h k r hk
theorem all_spec {l : List Cluster} (h : allM l = 0) : l.length ≤ 256 ∧ (∀ (k : Nat) (c : Cluster), l[k]? = some c → checkM c = 0) ∧ ∀ (k j : Nat) (c d : Cluster), l[k]? = some c → l[j]? = some d → j < k → beqS d.name c.name = false := by
  unfold allM at h
  simp only [cond_eq_ite] at h
  split at h
  · cases h
  rename_i h0
  obtain ⟨h1, _⟩ := getD_zero h (scan_ne fun k r hk => by
    unfold allM_B1 at hk
    simp only [cond_eq_ite] at hk
    split at hk
    · rename_i e he
      split at hk
      · rename_i hq
        simp only [Option.some.injEq] at hk
        subst hk
        simpa using hq
      · obtain ⟨j, _, _, hj, _⟩ := scanN_get hk
        unfold allM_B2 at hj
        simp only [cond_eq_ite] at hj
        split at hj
        · split at hj
          · simp only [Option.some.injEq] at hj
            subst hj; decide
          · cases hj
        · cases hj
    · cases hk)
  have key : ∀ (k : Nat) (c : Cluster), l[k]? = some c → checkM c = 0 ∧ allM_L2 l k c = none := by
    intro k c hc
    have := scan_at h1 (getElem_lt hc)
    unfold allM_B1 at this
    simp only [hc, cond_eq_ite] at this
    split at this
    · cases this
    · rename_i hq
      exact ⟨by simpa using hq, this⟩
  refine ⟨by simp at h0; omega, fun k c hc => (key k c hc).1, fun k j c d hc hd hjk => ?_⟩
  have h2 := (key k c hc).2
  have hkl := getElem_lt hc
  have := scan_at (n := (l.take k).length) (b := allM_B2 l k c) h2 (j := j) (by rw [List.length_take]; omega)
  unfold allM_B2 at this
  rw [List.getElem?_take, if_pos hjk, hd] at this
  simp only [cond_eq_ite] at this
  split at this
  · cases this
  · rename_i hq
    simpa using hq
end Go.Proofs.Ytmjimhkbehoomaa
