/- Chapter 21: Check, All, Attr and Command of the program and of the reference compute the same. Conditions: none. -/
import Derived.Test.YtelohjccoimnaaaDoorPc
namespace Go.Proofs.YtelohjccoimnaaaDoor
open Go Go.Av Go.Hh Go.Proofs

theorem scan_first {R : Type} {b : Nat → Option R} {n j : Nat} {r : R} (hj : j < n) (hb : b j = some r) (hno : ∀ i, i < j → b i = none) : scanN b 0 n = some r := by
  cases h : scanN b 0 n with
  | none => rw [scan_at h hj] at hb; cases hb
  | some r' =>
    obtain ⟨k, _, _, hk, hk2⟩ := scanN_get h
    rcases Nat.lt_trichotomy k j with h1 | h1 | h1
    · rw [hno k h1] at hk; cases hk
    · subst h1; rw [hb] at hk; rw [hk]
    · rw [hk2 j (Nat.zero_le _) h1] at hb; cases hb

theorem place_cases (c : Cluster) (x : ByteArray) : (placeM c x = -1 ∧ ∀ (j : Nat) (a : Attr), c.attrs[j]? = some a → a.name ≠ x) ∨
    ∃ (j : Nat) (a : Attr), placeM c x = (j : Int) ∧ c.attrs[j]? = some a ∧ a.name = x ∧ ∀ (i : Nat) (b : Attr), i < j → c.attrs[i]? = some b → b.name ≠ x := by
  unfold placeM
  have hnone : ∀ {j : Nat} {a : Attr}, c.attrs[j]? = some a → placeM_B1 c x j = none → a.name ≠ x := by
    intro j a ha hb he
    unfold placeM_B1 at hb
    rw [ha] at hb
    subst he
    simp only [beqS_refl, cond_true] at hb
    cases hb
  cases h : placeM_L1 c x with
  | none => exact .inl ⟨rfl, fun j a ha => hnone ha (scan_at h (getElem_lt ha))⟩
  | some r =>
    obtain ⟨k, _, _, hk, hno⟩ := scanN_get h
    unfold placeM_B1 at hk
    simp only [cond_eq_ite] at hk
    split at hk
    · rename_i e he
      split at hk
      · rename_i hb
        simp only [Option.some.injEq] at hk
        subst hk
        exact .inr ⟨k, e, rfl, he, beqS_true.1 hb, fun i b hi hb => hnone hb (hno i (Nat.zero_le _) hi)⟩
      · cases hk
    · cases hk

theorem attr_eq (c : Cluster) (x : ByteArray) : attrM c x = rattrM c x := by
  unfold attrM rattrM
  rcases place_cases c x with ⟨h1, h2⟩ | ⟨j, a, h1, h2, h3, h4⟩
  · have : attrM_L1 c x = none := scan_none fun j hj => by
      unfold attrM_B1
      rw [List.getElem?_eq_getElem hj]
      simp only
      rw [beqS_false.2 (h2 j _ (List.getElem?_eq_getElem hj))]
      rfl
    rw [this, h1]
    rfl
  · have : attrM_L1 c x = some (a, true) := scan_first (getElem_lt h2) (by
      unfold attrM_B1
      rw [h2]
      simp only
      rw [beqS_true.2 h3]
      rfl) fun i hi => by
      unfold attrM_B1
      have hil : i < c.attrs.length := Nat.lt_trans hi (getElem_lt h2)
      rw [List.getElem?_eq_getElem hil]
      simp only
      rw [beqS_false.2 (h4 i _ hi (List.getElem?_eq_getElem hil))]
      rfl
    rw [this, h1]
    have : decide ((j : Int) < 0) = false := decide_eq_false (by omega)
    rw [this]
    simp only [cond_false, Int.toNat_natCast, h2]
    rfl
theorem command_eq (c : Cluster) (x : ByteArray) : commandM c x = rcommandM c x := rfl

theorem zero_eq (a : Attr) : zeroM a = sameAttrM a (⟨⟨#[]⟩, 0, 0, 0, [], false, false⟩ : Attr) := by
  unfold zeroM sameAttrM
  rw [sameNames_eq]
  have h : (((a.enum.length : Nat) : Int) == 0) = decide (a.enum = []) := by
    rw [Bool.eq_iff_iff]; simp
  rw [h]
  cases a.writable <;> cases a.safety <;> simp

theorem sat_ne (n : Int) : (satM n != n) = (decide (n < -1099511627776) || decide (n > 1099511627776)) := by
  unfold satM
  rw [Bool.eq_iff_iff]
  simp only [bne_iff_ne, Bool.or_eq_true, decide_eq_true_eq]
  split <;> split <;> omega

theorem suits_eq (x : Effect) (a b : Attr) : suitsM x a b = rsuitsM x a b := by
  unfold suitsM rsuitsM alikeM
  rw [fits_eq, sEqual_eq, sameNames_eq]
  have h1 : (a.kind == b.kind) = (b.kind == a.kind) := by rw [Bool.eq_iff_iff]; simp; exact eq_comm
  have h2 : decide (a.enum = b.enum) = decide (b.enum = a.enum) := decide_eq_decide.2 eq_comm
  rw [h1, h2]

theorem effect_eq (c : Cluster) (b : Attr) (x : Effect) : effectM c b x = reffectM c b x := by
  unfold effectM reffectM
  rw [attr_eq, suits_eq, sat_ne]

theorem numbered_eq (c : Cluster) {i : Nat} (hi : i < c.commands.length) : numberedM c i = oneM c i := by
  unfold numberedM oneM
  have he : c.commands[i]? = some c.commands[i] := List.getElem?_eq_getElem hi
  rw [he]
  simp only
  have h1 : numberedM_L1 c i c.commands[i] = oneM_L1 c i c.commands[i] := by
    unfold numberedM_L1 oneM_L1
    rw [List.length_take, Nat.min_eq_left (Nat.le_of_lt hi)]
    exact scan_eq fun j hj => by
      unfold numberedM_B1 oneM_B1
      rw [List.getElem?_take, if_pos hj]
  have h2 : numberedM_L2 c i c.commands[i] = oneM_L2 c i c.commands[i] := scan_eq fun j hj => by
    unfold numberedM_B2 oneM_B2
    rw [List.getElem?_eq_getElem hj]
    simp only
    rw [effect_eq]
  rw [h1, h2, valid_eq, def_eq, zero_eq]

open Classical in
/-- A loop that looks for a name among the first ones. -/
theorem dup_scan {α : Type} {l : List α} (name : α → ByteArray) (x : ByteArray) (k : Nat) (b : Nat → Option Int) (hb : ∀ (j : Nat) (e : α), j < k → l[j]? = some e → b j = bif beqS (name e) x then some 9 else none) (hk : k ≤ l.length) :
    scanN b 0 k = if ∃ (j : Nat) (e : α), j < k ∧ l[j]? = some e ∧ name e = x then some 9 else none := by
  split
  · rename_i h
    obtain ⟨j, e, h1, h2, h3⟩ := h
    cases hs : scanN b 0 k with
    | none =>
      have := scan_at hs h1
      rw [hb j e h1 h2, beqS_true.2 h3] at this
      cases this
    | some r =>
      obtain ⟨i, _, hi2, hi, _⟩ := scanN_get hs
      have hil : i < l.length := by omega
      rw [hb i l[i] (by omega) (List.getElem?_eq_getElem hil)] at hi
      cases hq : beqS (name l[i]) x <;> rw [hq] at hi
      · cases hi
      · exact hi.symm
  · rename_i h
    refine scan_none fun j hj => ?_
    have hjl : j < l.length := by omega
    rw [hb j l[j] hj (List.getElem?_eq_getElem hjl)]
    rw [beqS_false.2 fun he => h ⟨j, l[j], hj, List.getElem?_eq_getElem hjl, he⟩]
    rfl

theorem attrs_eq (c : Cluster) : checkM_L1 c = rcheckM_L1 c := scan_eq fun j hj => by
  unfold checkM_B1 rcheckM_B1
  have he : c.attrs[j]? = some c.attrs[j] := List.getElem?_eq_getElem hj
  rw [he]
  simp only
  rw [def_eq]
  have h2 : checkM_L2 c j c.attrs[j] = (bif decide (placeM c c.attrs[j].name < (j : Int)) then some 9 else none) := by
    unfold checkM_L2
    rw [List.length_take, Nat.min_eq_left (Nat.le_of_lt hj), dup_scan (l := c.attrs) (·.name) c.attrs[j].name j _ (fun i e hi hie => by
      unfold checkM_B2
      rw [List.getElem?_take, if_pos hi, hie]) (Nat.le_of_lt hj), cond_eq_ite]
    rcases place_cases c c.attrs[j].name with ⟨_, g2⟩ | ⟨i, a, g1, g2, g3, g4⟩
    · exact absurd rfl (g2 j _ he)
    · rw [g1]
      by_cases hij : i < j
      · rw [if_pos ⟨i, a, hij, g2, g3⟩, if_pos (by simpa using hij)]
      · rw [if_neg, if_neg (by simp; omega)]
        rintro ⟨q, e, hq, hqe, hn⟩
        exact g4 q e (by omega) hqe hn
  rw [h2]
theorem commands_eq (c : Cluster) : checkM_L3 c = rcheckM_L2 c := scan_eq fun j hj => by
  unfold checkM_B3 rcheckM_B2
  rw [numbered_eq c hj]
theorem events_eq (c : Cluster) : checkM_L4 c = rcheckM_L3 c := scan_eq fun j hj => by
  unfold checkM_B4 rcheckM_B3
  have he : c.events[j]? = some c.events[j] := List.getElem?_eq_getElem hj
  rw [he]
  simp only
  rw [valid_eq]
  have h2 : rcheckM_L4 c j c.events[j] = (bif sContM (c.events.take j) c.events[j] then some 9 else none) := by
    unfold rcheckM_L4
    rw [dup_scan (l := c.events) id c.events[j] j _ (fun i e hi hie => by
      unfold rcheckM_B4
      rw [hie]
      rfl) (Nat.le_of_lt hj), cond_eq_ite]
    have : (∃ (i : Nat) (e : ByteArray), i < j ∧ c.events[i]? = some e ∧ id e = c.events[j]) ↔ c.events[j] ∈ c.events.take j := by
      rw [mem_take_iff]
      constructor
      · rintro ⟨i, e, h1, h2, rfl⟩; exact ⟨i, h1, h2⟩
      · rintro ⟨i, h1, h2⟩; exact ⟨i, _, h1, h2, rfl⟩
    by_cases hm : c.events[j] ∈ c.events.take j
    · rw [if_pos (this.2 hm), (sCont_iff _ _).2 hm]; rfl
    · rw [if_neg (fun h => hm (this.1 h)), Bool.eq_false_iff.2 (fun h => hm ((sCont_iff _ _).1 h))]; rfl
  rw [h2]
theorem check_eq (c : Cluster) : checkM c = rcheckM c := by
  unfold checkM rcheckM
  rw [valid_eq, wide_eq, attrs_eq, commands_eq, events_eq]
theorem all_eq (l : List Cluster) : allM l = rallM l := by
  unfold allM rallM
  have h : allM_L1 l = rallM_L1 l := scan_eq fun j hj => by
    unfold allM_B1 rallM_B1
    rw [List.getElem?_eq_getElem hj]
    simp only
    rw [check_eq]
    have h2 : allM_L2 l j l[j] = rallM_L2 l j l[j] := by
      unfold allM_L2 rallM_L2
      rw [List.length_take, Nat.min_eq_left (Nat.le_of_lt hj)]
      exact scan_eq fun i hi => by
        unfold allM_B2 rallM_B2
        rw [List.getElem?_take, if_pos hi]
    rw [h2]
  rw [h]

theorem sameAttr_refl (a : Attr) : sameAttrM a a = true := by
  unfold sameAttrM
  rw [sameNames_eq]
  simp [beqS_refl]
theorem sameCommand_refl (a : Command) : sameCommandM a a = true := by
  unfold sameCommandM
  have : sameCommandM_L1 a a = none := scan_none fun j hj => by
    unfold sameCommandM_B1
    rw [List.getElem?_eq_getElem hj]
    simp [beqS_refl]
  rw [this]
  simp [beqS_refl, sameAttr_refl]
theorem sameValues_refl (l : List Val) : sameValuesM l l = true := by
  unfold sameValuesM
  have : sameValuesM_L1 l l = none := scan_none fun j hj => by
    unfold sameValuesM_B1
    rw [List.getElem?_eq_getElem hj]
    simp [beqS_refl]
  rw [this]
  simp
end Go.Proofs.YtelohjccoimnaaaDoor
