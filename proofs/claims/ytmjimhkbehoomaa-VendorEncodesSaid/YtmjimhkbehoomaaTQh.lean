/- Vendor: first indices, the fields of a valid codec, the attribute that a field encodes. Conditions: none. -/
import Derived.Test.YtmjimhkbehoomaaTB5
namespace Go.Proofs.Ytmjimhkbehoomaa
open Go Go.Av Go.Hh Go.Proofs
/-- The first index with a property, or -1. -/
def firstB {α : Type} (l : List α) (p : α → Bool) (k : Nat) : Option Int :=
  match l[k]? with
  | some e => bif p e then some ((k : Nat) : Int) else none
  | none => none
def firstI {α : Type} (l : List α) (p : α → Bool) : Int := (scanN (firstB l p) 0 l.length).getD (-1)
theorem firstB_some {α : Type} {l : List α} {p : α → Bool} {k : Nat} {e : α} (he : l[k]? = some e) : firstB l p k = bif p e then some ((k : Nat) : Int) else none := by
  unfold firstB
  rw [he]
theorem firstI_cases {α : Type} (l : List α) (p : α → Bool) : (firstI l p = -1 ∧ ∀ (j : Nat) (e : α), l[j]? = some e → p e = false) ∨
    ∃ (j : Nat) (e : α), firstI l p = (j : Int) ∧ l[j]? = some e ∧ p e = true ∧ ∀ (i : Nat) (d : α), i < j → l[i]? = some d → p d = false := by
  cases hs : scanN (firstB l p) 0 l.length with
  | none =>
    refine .inl ⟨by unfold firstI; rw [hs]; rfl, fun j e he => ?_⟩
    have := scan_at hs (getElem_lt he)
    rw [firstB_some he] at this
    cases hp : p e with
    | false => rfl
    | true => rw [hp] at this; cases this
  | some r =>
    obtain ⟨j, _, h2, h3, h4⟩ := scanN_get hs
    have hj : j < l.length := by omega
    have he : l[j]? = some l[j] := List.getElem?_eq_getElem hj
    rw [firstB_some he] at h3
    cases hp : p l[j] with
    | false => rw [hp] at h3; cases h3
    | true =>
      rw [hp] at h3
      simp only [cond_true, Option.some.injEq] at h3
      refine .inr ⟨j, l[j], by unfold firstI; rw [hs]; exact h3.symm, he, hp, fun i d hi hd => ?_⟩
      have := h4 i (Nat.zero_le _) hi
      rw [firstB_some hd] at this
      cases hq : p d with
      | false => rfl
      | true => rw [hq] at this; cases this
theorem firstI_congr {α : Type} {l : List α} {p q : α → Bool} (h : ∀ (j : Nat) (e : α), l[j]? = some e → p e = q e) : firstI l p = firstI l q := by
  unfold firstI
  rw [scan_eq (b := firstB l p) (c := firstB l q) fun j hj => ?_]
  have he : l[j]? = some l[j] := List.getElem?_eq_getElem hj
  rw [firstB_some he, firstB_some he, h j _ he]
theorem firstI_lt {α : Type} (l : List α) (p : α → Bool) : firstI l p < (l.length : Int) := by
  rcases firstI_cases l p with ⟨h, _⟩ | ⟨j, e, h, he, _⟩
  · omega
  · have := getElem_lt he; omega
theorem firstI_at {α : Type} {l : List α} {p : α → Bool} (h : 0 ≤ firstI l p) : ∃ e, l[(firstI l p).toNat]? = some e ∧ p e = true := by
  rcases firstI_cases l p with ⟨h1, _⟩ | ⟨j, e, h1, he, hp, _⟩
  · omega
  · refine ⟨e, ?_, hp⟩
    rw [h1, Int.toNat_natCast]
    exact he
theorem first_of {α : Type} {l : List α} {p : α → Bool} {b : Nat → Option Int} (h : ∀ (k : Nat) (e : α), l[k]? = some e → b k = bif p e then some ((k : Nat) : Int) else none) : (scanN b 0 l.length).getD (-1) = firstI l p := by
  unfold firstI
  rw [scan_eq (b := b) (c := firstB l p) fun k hk => ?_]
  have he : l[k]? = some l[k] := List.getElem?_eq_getElem hk
  rw [h k _ he, firstB_some he]
theorem iIndex_first (l : List Int) (n : Int) : iIndexM l n = firstI l (fun e => n == e) := first_of fun k e he => by unfold iIndexM_B1; rw [he]
theorem rindex_first (l : List Int) (n : Int) : rindexM l n = firstI l (fun e => e == n) := first_of fun k e he => by unfold rindexM_B1; rw [he]
theorem code_first (l : List FieldV) (n : Int) : codeM l n = firstI l (fun e => e.code == n) := first_of fun k e he => by unfold codeM_B1; rw [he]
theorem at_first (h : Home) (n : Int) : atM h n = firstI h.devices (fun e => e.id == n) := first_of fun k e he => by unfold atM_B1; rw [he]
theorem ixOwn_first (l : List Dev) (n v : Int) : ixOwnM l n v = firstI l (fun e => owns1M e n v) := first_of fun k e he => by unfold ixOwnM_B1; rw [he]
theorem ixDec_first (l : List FieldV) (s : ByteArray) : ixDecM l s = firstI l (fun e => dec1M e s) := first_of fun k e he => by unfold ixDecM_B1; rw [he]
theorem ixEnc_first (l : List FieldV) (x : ItemV) : ixEncM l x = firstI l (fun e => enc1M e x) := first_of fun k e he => by unfold ixEncM_B1; rw [he]
theorem ixDec_lt (l : List FieldV) (s : ByteArray) : ixDecM l s < (l.length : Int) := ixDec_first l s ▸ firstI_lt _ _
theorem ixEnc_lt (l : List FieldV) (x : ItemV) : ixEncM l x < (l.length : Int) := ixEnc_first l x ▸ firstI_lt _ _
/-- An attribute that is found is one of the cluster's. -/
theorem attr_mem {c : Cluster} {x : ByteArray} (h : (attrM c x).2 = true) : ∃ j : Nat, c.attrs[j]? = some (attrM c x).1 ∧ (attrM c x).1.name = x := by
  unfold attrM at h ⊢
  cases hs : attrM_L1 c x with
  | none => rw [hs] at h; cases h
  | some r =>
    obtain ⟨j, _, _, hj, _⟩ := scanN_get hs
    unfold attrM_B1 at hj
    simp only [cond_eq_ite] at hj
    split at hj
    · rename_i e he
      split at hj
      · rename_i hq
        cases hj
        exact ⟨j, he, beqS_true.1 hq⟩
      · cases hj
    · cases hj
theorem vattr_b1 (h : Home) (f : FieldV) (k : Nat) : vattrM_B1 h f k = match h.clusters[k]? with | some e => (bif beqS e.name f.cluster then some (attrM e f.attr) else none) | none => none := by
  unfold vattrM_B1
  cases h.clusters[k]? with
  | none => rfl
  | some e =>
    dsimp only
    cases beqS e.name f.cluster with
    | false => rfl
    | true =>
      show (attrM_L1 e f.attr).or (some _) = some (attrM e f.attr)
      unfold attrM
      cases attrM_L1 e f.attr <;> rfl
theorem vattr_eq (h : Home) (f : FieldV) : vattrM h f = rvattrM h f.cluster f.attr := by
  unfold vattrM rvattrM
  have : vattrM_L1 h f = rvattrM_L1 h f.cluster f.attr := scan_eq fun j hj => by
    rw [vattr_b1]
    unfold rvattrM_B1
    cases h.clusters[j]? with
    | none => rfl
    | some e => dsimp only; rw [attr_eq]
  rw [this]
/-- The cluster and the attribute of a field that is found. -/
theorem vattr_cluster {h : Home} {f : FieldV} (hf : (vattrM h f).2 = true) : ∃ (j : Nat) (c : Cluster), h.clusters[j]? = some c ∧ c.name = f.cluster ∧ vattrM h f = attrM c f.attr := by
  unfold vattrM at hf ⊢
  cases hs : vattrM_L1 h f with
  | none => rw [hs] at hf; cases hf
  | some r =>
    obtain ⟨j, _, _, hj, _⟩ := scanN_get hs
    rw [vattr_b1] at hj
    simp only [cond_eq_ite] at hj
    split at hj
    · rename_i e he
      split at hj
      · rename_i hq
        cases hj
        exact ⟨j, e, he, beqS_true.1 hq, rfl⟩
      · cases hj
    · cases hj
theorem vattr_def {h : Home} {f : FieldV} (h0 : devCheckM h = 0) (hf : (vattrM h f).2 = true) : defM (vattrM h f).1 = 0 := by
  obtain ⟨j, c, hc, _, he⟩ := vattr_cluster hf
  rw [he] at hf ⊢
  obtain ⟨k, hk, _⟩ := attr_mem hf
  exact check_def (clusters_valid h0 hc) hk
/-- What is found is what the field encodes. -/
theorem find_vattr {h : Home} {k : KeyV} (hk : (findM h k).2 = true) : ∃ (j : Nat) (c : Cluster), h.clusters[j]? = some c ∧ c.name = k.cluster ∧ findM h k = attrM c k.attr ∧ (∀ (f : FieldV), f.cluster = k.cluster → f.attr = k.attr → vattrM h f = findM h k) ∧ devCheckM h = 0 := by
  unfold findM at hk ⊢
  simp only [cond_eq_ite] at hk ⊢
  split at hk
  · cases hk
  · rename_i hq
    simp only [Bool.or_eq_true, Bool.not_eq_true', not_or, Bool.not_eq_false, decide_eq_true_eq] at hq
    rw [if_neg (by simp only [Bool.or_eq_true, Bool.not_eq_true', not_or, Bool.not_eq_false, decide_eq_true_eq]; exact hq)]
    have h0 := devFind_check hq.1
    have hn := all_names (devCheck_all h0)
    rw [clusters_eq hn] at hk ⊢
    rcases mget_map (l := h.clusters) (x := k.cluster) with ⟨h1, _⟩ | ⟨j, c, h1, h2, h3, h4⟩
    · rw [h1] at hk
      simp only [Option.isSome_none, Bool.false_eq_true, if_false] at hk
      split at hk
      · cases hk
      · rename_i hz
        exact absurd rfl hz
    · rw [h1] at hk ⊢
      simp only [Option.isSome_some, if_true, Option.getD_some] at hk ⊢
      split at hk
      · cases hk
      · rename_i hz
        simp only [Bool.not_eq_true', Bool.not_eq_false] at hz
        have e1 : (if (!(attrM c k.attr).2) = true then ((⟨⟨#[]⟩, 0, 0, 0, [], false, false⟩ : Attr), false) else ((attrM c k.attr).1, true)) = attrM c k.attr := by
          rw [if_neg (by simp [hz]), ← hz]
        rw [e1]
        refine ⟨j, c, h2, h3, rfl, fun f hc ha => ?_, h0⟩
        unfold vattrM
        have : vattrM_L1 h f = some (attrM c f.attr) := scan_first (j := j) (getElem_lt h2) (by rw [vattr_b1, h2]; dsimp only; rw [h3, hc, beqS_refl]; rfl) fun i hi => by
          rw [vattr_b1]
          have hil : i < h.clusters.length := by have := getElem_lt h2; omega
          have he : h.clusters[i]? = some h.clusters[i] := List.getElem?_eq_getElem hil
          rw [he]
          dsimp only
          rw [beqS_false.2 (by rw [hc]; exact h4 i _ hi he)]
          rfl
        rw [this, ha]
        rfl
theorem venCheck_parts {c : Codec} {h : Home} (h0 : venCheckM c h = 0) : devCheckM h = 0 ∧ c.fields.length ≤ 32 ∧ ∀ i, i < c.fields.length → fieldM c h i = 0 := by
  unfold venCheckM at h0
  simp only [cond_eq_ite] at h0
  split at h0
  · rename_i hq; rw [h0] at hq; exact absurd hq (by decide)
  · rename_i hd
    split at h0
    · cases h0
    · split at h0
      · cases h0
      · rename_i hl
        have h1 := (getD_zero h0 (scan_ne fun k r hk => by
          unfold venCheckM_B1 at hk
          simp only [cond_eq_ite] at hk
          split at hk
          · rename_i hq
            simp only [Option.some.injEq] at hk
            subst hk
            simpa using hq
          · cases hk)).1
        refine ⟨by simpa using hd, by simp only [decide_eq_true_eq] at hl; omega, fun i hi => ?_⟩
        have := scan_at h1 hi
        unfold venCheckM_B1 at this
        simp only [cond_eq_ite] at this
        split at this
        · cases this
        · rename_i hq
          simpa using hq
theorem field_spec {c : Codec} {h : Home} {i : Nat} {f : FieldV} (h0 : fieldM c h i = 0) (hf : c.fields[i]? = some f) :
    (0 ≤ f.code ∧ f.code ≤ 255 ∧ 0 ≤ f.scale ∧ f.scale ≤ 1000 ∧ -100000 ≤ f.offset ∧ f.offset ≤ 100000) ∧ (∀ (j : Nat) (d : FieldV), j < i → c.fields[j]? = some d → d.code ≠ f.code) ∧ (vattrM h f).2 = true ∧ (vattrM h f).1.kind ≠ 4 ∧ formM f (vattrM h f).1 = true := by
  unfold fieldM at h0
  simp only [hf, cond_eq_ite] at h0
  split at h0
  · cases h0
  · rename_i hr
    simp only [Bool.or_eq_true, decide_eq_true_eq, not_or, Int.not_lt] at hr
    obtain ⟨h1, h2⟩ := getD_zero h0 (scan_ne fun k r hk => by
      unfold fieldM_B1 at hk
      simp only [cond_eq_ite] at hk
      repeat' split at hk
      all_goals first
        | cases hk; done
        | (cases hk; decide))
    have hil := getElem_lt hf
    refine ⟨by omega, fun j d hj hd => ?_, ?_⟩
    · have := scan_at (b := fieldM_B1 c h i f) (n := (c.fields.take i).length) h1 (j := j) (by rw [List.length_take]; omega)
      unfold fieldM_B1 at this
      rw [List.getElem?_take, if_pos hj, hd] at this
      simp only [cond_eq_ite] at this
      split at this
      · cases this
      · rename_i hq
        simpa using hq
    · split at h2
      · cases h2
      · rename_i ha
        split at h2
        · cases h2
        · rename_i hk
          split at h2
          · cases h2
          · rename_i hm
            exact ⟨by simpa using ha, by simpa using hk, by simpa using hm⟩
theorem fits_spec {a : Attr} {v : Val} (h : fitsM a v = 0) : defM a = 0 ∧ vCheckM v = 0 ∧ v.kind = a.kind ∧ (v.kind = 2 → a.min ≤ v.n ∧ v.n ≤ a.max) ∧ (v.kind = 3 → v.n < (a.enum.length : Int)) := by
  unfold fitsM at h
  simp only [cond_eq_ite] at h
  split at h
  · rename_i hq; rw [h] at hq; exact absurd hq (by decide)
  · rename_i h1
    split at h
    · rename_i hq; rw [h] at hq; exact absurd hq (by decide)
    · rename_i h2
      split at h
      · cases h
      · rename_i h3
        split at h
        · cases h
        · rename_i h4
          simp only [Bool.or_eq_true, Bool.and_eq_true, beq_iff_eq, decide_eq_true_eq, not_or, not_and, Int.not_lt] at h4
          exact ⟨by simpa using h1, by simpa using h2, by simpa using h3, fun hk => by have := h4.1 hk; omega, fun hk => by have := h4.2 hk; omega⟩
theorem vcheck_spec {v : Val} (h : vCheckM v = 0) : (v.kind = 1 → v.n = 0 ∨ v.n = 1) ∧ (v.kind = 2 → -1099511627776 ≤ v.n ∧ v.n ≤ 1099511627776) ∧ (v.kind = 3 → 0 ≤ v.n ∧ v.n ≤ 63) ∧ (v.kind ≠ 4 → v.s = ⟨#[]⟩) := by
  unfold vCheckM at h
  cases hA : (((v.kind == 0) || (v.kind == 4)) || ((v.kind == 1) || ((v.kind == 2) || (v.kind == 3)))) with
  | false => rw [hA] at h; cases h
  | true =>
    rw [hA] at h
    cases hB : (bif ((v.kind == 0) || (v.kind == 4)) then (v.n == 0) else (bif (v.kind == 1) then ((v.n == 0) || (v.n == 1)) else (bif (v.kind == 2) then inRangeM v.n else (decide (v.n ≥ 0) && decide (v.n ≤ 63))))) with
    | false => rw [hB] at h; cases h
    | true =>
      rw [hB] at h
      simp only [cond_true, Bool.not_true, cond_false] at h
      simp only [cond_eq_ite] at h
      split at h
      · cases h
      · split at h
        · cases h
        · rename_i h3
          refine ⟨fun hk => ?_, fun hk => ?_, fun hk => ?_, fun hk => ?_⟩
          · simpa [hk] using hB
          · simp [hk, inRangeM] at hB
            omega
          · simp [hk] at hB
            omega
          · simp only [Bool.and_eq_true, bne_iff_ne, ne_eq, not_and, Decidable.not_not, Bool.not_eq_true'] at h3
            cases hq : beqS v.s ⟨#[]⟩ with
            | true => exact beqS_true.1 hq
            | false => exact absurd (h3 hq) hk
theorem def_kind {a : Attr} (h : defM a = 0) : 1 ≤ a.kind ∧ a.kind ≤ 4 ∧ (a.kind ≠ 3 → a.enum = []) ∧ (a.kind = 2 → -1099511627776 ≤ a.min ∧ a.max ≤ 1099511627776) ∧ a.enum.length ≤ 64 := by
  unfold defM at h
  cases hm : (bif (a.kind == 2) then !((!(inRangeM a.min) || !(inRangeM a.max)) || decide (a.min > a.max)) else !((a.min != 0) || (a.max != 0))) with
  | false =>
    rw [hm] at h
    simp only [cond_false] at h
    simp only [cond_eq_ite] at h
    repeat' split at h
    all_goals cases h
  | true =>
    rw [hm] at h
    simp only [cond_true] at h
    simp only [cond_eq_ite] at h
    split at h
    · cases h
    · split at h
      · cases h
      · rename_i hk
        simp only [Bool.or_eq_true, decide_eq_true_eq, not_or, Int.not_lt] at hk
        split at h
        · rename_i h3
          have h3 : a.kind = 3 := by simpa using h3
          refine ⟨by omega, by omega, fun h => absurd h3 h, fun h => by omega, ?_⟩
          unfold membersM at h
          simp only [cond_eq_ite] at h
          split at h
          · cases h
          · rename_i hl
            simp only [Bool.or_eq_true, decide_eq_true_eq, not_or, Int.not_lt] at hl
            omega
        · rename_i h3
          have h3 : a.kind ≠ 3 := by simpa using h3
          split at h
          · cases h
          · rename_i hl
            simp only [decide_eq_true_eq] at hl
            have hl0 : a.enum = [] := List.eq_nil_of_length_eq_zero (by omega)
            refine ⟨by omega, by omega, fun _ => hl0, fun h2 => ?_, by rw [hl0]; decide⟩
            simp [h2, inRangeM] at hm
            omega
theorem form_spec {f : FieldV} {a : Attr} (h : formM f a = true) : (a.kind = 2 → f.scale ≠ 0 ∧ f.map = []) ∧ (a.kind = 3 → f.scale = 0 ∧ f.offset = 0 ∧ mappedM f.map ((a.enum.length : Nat) : Int) = true) ∧ (a.kind ≠ 2 → a.kind ≠ 3 → f.scale = 0 ∧ f.offset = 0 ∧ f.map = []) := by
  unfold formM at h
  simp only [cond_eq_ite] at h
  refine ⟨fun hk => ?_, fun hk => ?_, fun h2 h3 => ?_⟩
  · simpa [hk] using h
  · simpa [hk, and_assoc] using h
  · simpa [h2, h3, and_assoc] using h
theorem mapped_spec {l : List Int} {n : Nat} (h : mappedM l ((n : Nat) : Int) = true) : l.length = n ∧ ∀ (j : Nat) (x : Int), l[j]? = some x → 0 ≤ x ∧ x ≤ 65535 ∧ iIndexM l x = (j : Int) := by
  unfold mappedM at h
  simp only [cond_eq_ite] at h
  split at h
  · cases h
  · rename_i hl
    have hl : l.length = n := by
      simp only [bne_iff_ne, ne_eq, Decidable.not_not] at hl
      omega
    refine ⟨hl, fun j x hx => ?_⟩
    cases hs : mappedM_L1 l ((n : Nat) : Int) with
    | some r =>
      obtain ⟨i, _, _, hi, _⟩ := scanN_get hs
      rw [hs] at h
      simp only [Option.getD_some] at h
      subst h
      unfold mappedM_B1 at hi
      simp only [cond_eq_ite] at hi
      repeat' split at hi
      all_goals cases hi
    | none =>
      have := scan_at hs (getElem_lt hx)
      unfold mappedM_B1 at this
      simp only [hx, cond_eq_ite] at this
      split at this
      · cases this
      · rename_i hq
        simp only [Bool.or_eq_true, decide_eq_true_eq, not_or, Int.not_lt] at hq
        refine ⟨by omega, by omega, ?_⟩
        rw [iIndex_first] at hq ⊢
        rcases firstI_cases l (fun e => x == e) with ⟨_, h2⟩ | ⟨i, e, h1, h2, h3, h4⟩
        · have := h2 j x hx
          simp at this
        · rw [h1] at hq ⊢
          rcases Nat.lt_or_ge j i with hji | hji
          · have := h4 j x hji hx
            simp at this
          · omega
/-- What a number's contract asks, of a value that fits. -/
theorem num_pre {c : Codec} {h : Home} {x : ItemV} {f : FieldV} (h0 : venCheckM c h = 0) (h1 : (findM h x.key).2 = true) (h2 : fitsM (findM h x.key).1 x.value = 0) (h3 : 0 ≤ ixEncM c.fields x) (h4 : c.fields[(ixEncM c.fields x).toNat]? = some f) :
    (x.value.kind = 3 → 0 ≤ x.value.n ∧ x.value.n < (f.map.length : Int)) ∧ (x.value.kind ≠ 1 → x.value.kind ≠ 3 → 0 < f.scale) := by
  obtain ⟨e, he, hp⟩ := firstI_at (l := c.fields) (p := fun e => enc1M e x) (ixEnc_first c.fields x ▸ h3)
  rw [← ixEnc_first, h4] at he
  cases he
  unfold enc1M at hp
  simp only [Bool.and_eq_true] at hp
  obtain ⟨_, _, hp3⟩ := venCheck_parts h0
  obtain ⟨hr, _, hv, hk, hm⟩ := field_spec (hp3 _ (getElem_lt h4)) h4
  obtain ⟨_, _, _, _, _, hfv, hd⟩ := find_vattr h1
  rw [hfv f (beqS_true.1 hp.1) (beqS_true.1 hp.2)] at hv hk hm
  obtain ⟨s1, s2, s3, s4, s5⟩ := fits_spec h2
  obtain ⟨v1, v2, v3, v4⟩ := vcheck_spec s2
  obtain ⟨f1, f2, f3⟩ := form_spec hm
  have hdk := def_kind s1
  refine ⟨fun hk3 => ?_, fun hk1 hk3 => ?_⟩
  · have := (mapped_spec (f2 (by omega)).2.2).1
    have := v3 hk3
    have := s5 hk3
    omega
  · have := (f1 (by omega)).1
    omega
end Go.Proofs.Ytmjimhkbehoomaa
