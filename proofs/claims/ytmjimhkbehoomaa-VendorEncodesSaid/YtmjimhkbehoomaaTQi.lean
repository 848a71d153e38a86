/- Vendor: the program checks a codec, finds an attribute and knows its devices as the reference does. Conditions: none. -/
import Derived.Test.YtmjimhkbehoomaaTQh
namespace Go.Proofs.Ytmjimhkbehoomaa
open Go Go.Av Go.Hh Go.Proofs
theorem first_take {α : Type} {l : List α} {p : α → Bool} {k : Nat} {e : α} (he : l[k]? = some e) (hp : p e = true) : decide (firstI l p < (k : Int)) = decide (firstI (l.take k) p ≥ 0) := by
  refine decide_eq_decide.2 ?_
  rcases firstI_cases l p with ⟨_, h2⟩ | ⟨j, d, h1, h2, h3, h4⟩
  · rw [h2 k e he] at hp; cases hp
  · rcases firstI_cases (l.take k) p with ⟨g1, g2⟩ | ⟨i, d', g1, g2, g3, g4⟩
    · rw [h1, g1]
      constructor
      · intro hj
        have := g2 j d (by rw [List.getElem?_take, if_pos (by omega)]; exact h2)
        rw [this] at h3; cases h3
      · intro hj; omega
    · rw [h1, g1]
      rw [List.getElem?_take] at g2
      split at g2
      · rename_i hik
        rcases Nat.lt_or_ge i j with h | h
        · rw [h4 i d' h g2] at g3; cases g3
        · constructor <;> intro _ <;> omega
      · cases g2
theorem mapped_eq (f : FieldV) (a : Attr) (n : Int) : mappedM f.map n = bif (((f.map.length : Nat) : Int) != n) then false else (shapeM_L1 f a).getD true := by
  unfold mappedM
  have : mappedM_L1 f.map n = shapeM_L1 f a := scan_eq fun j hj => by
    unfold mappedM_B1 shapeM_B1
    have he : f.map[j]? = some f.map[j] := List.getElem?_eq_getElem hj
    generalize f.map[j] = e at he
    rw [he]
    dsimp only
    rw [iIndex_first, first_take (p := fun x => e == x) he (by simp), rindex_first]
    have : firstI (f.map.take j) (fun x => e == x) = firstI (f.map.take j) (fun x => x == e) := firstI_congr fun _ x _ => by rw [Bool.eq_iff_iff]; simp; exact eq_comm
    rw [this]
    cases decide (e < 0) <;> cases decide (e > 65535) <;> cases decide (firstI (f.map.take j) (fun x => x == e) ≥ 0) <;> rfl
  rw [this]
theorem form_eq {f : FieldV} {a : Attr} (hd : defM a = 0) (hk : a.kind ≠ 4) (hs : 0 ≤ f.scale) : formM f a = shapeM f a := by
  obtain ⟨h1, h2, h3, _⟩ := def_kind hd
  unfold formM shapeM
  by_cases k2 : a.kind = 2
  · rw [k2]
    simp only [beq_self_eq_true, cond_true]
    congr 1
    rw [Bool.eq_iff_iff]
    simp only [bne_iff_ne, ne_eq, decide_eq_true_eq]
    omega
  · have e2 : (a.kind == 2) = false := by simpa using k2
    rw [e2]
    simp only [cond_false]
    by_cases k3 : a.kind = 3
    · rw [k3]
      simp only [beq_self_eq_true, cond_true]
      rw [mapped_eq f a]
      by_cases s0 : f.scale = 0
      · by_cases o0 : f.offset = 0
        · simp [s0, o0]
        · have o1 : (f.offset == 0) = false := by simpa using o0
          simp [s0, bne, o1]
      · have s1 : (f.scale == 0) = false := by simpa using s0
        simp [bne, s1]
    · have e3 : (a.kind == 3) = false := by simpa using k3
      rw [e3, h3 k3]
      simp only [cond_false, List.length_nil]
      by_cases s0 : f.scale = 0
      · by_cases o0 : f.offset = 0
        · by_cases m0 : f.map = []
          · simp [s0, o0, m0, shapeM_L1, scanN]
          · have m1 : f.map.length ≠ 0 := fun h => m0 (List.eq_nil_of_length_eq_zero h)
            have m2 : (((f.map.length : Nat) : Int) == 0) = false := by simp; exact m0
            have m3 : (((f.map.length : Nat) : Int) == ((0 : Nat) : Int)) = false := m2
            simp only [s0, o0, bne, m2, m3]
            rfl
        · have o1 : (f.offset == 0) = false := by simpa using o0
          simp [s0, bne, o1]
      · have s1 : (f.scale == 0) = false := by simpa using s0
        simp [bne, s1]
theorem dup_eq (c : Codec) (h : Home) (i : Nat) (f : FieldV) : fieldM_L1 c h i f = bif decide (codeM (c.fields.take i) f.code ≥ 0) then some 9 else none := by
  rw [code_first]
  rcases firstI_cases (c.fields.take i) (fun e => e.code == f.code) with ⟨g1, g2⟩ | ⟨j, d, g1, g2, g3, g4⟩
  · rw [g1]
    refine scan_none fun j hj => ?_
    unfold fieldM_B1
    have he : (c.fields.take i)[j]? = some (c.fields.take i)[j] := List.getElem?_eq_getElem hj
    rw [he]
    dsimp only
    rw [g2 j _ he]
    rfl
  · rw [g1, decide_eq_true (by omega)]
    refine scan_first (j := j) (getElem_lt g2) ?_ fun k hk => ?_
    · unfold fieldM_B1
      rw [g2]
      dsimp only
      rw [g3]
      rfl
    · unfold fieldM_B1
      have hkl : k < (c.fields.take i).length := by have := getElem_lt g2; omega
      have he : (c.fields.take i)[k]? = some (c.fields.take i)[k] := List.getElem?_eq_getElem hkl
      rw [he]
      dsimp only
      rw [g4 k _ hk he]
      rfl
theorem venCheck_eq (c : Codec) (h : Home) : venCheckM c h = rvenCheckM c h := by
  unfold venCheckM rvenCheckM
  rw [dev_eq]
  cases hd : (rdevCheckM h != 0) with
  | true => rfl
  | false =>
    have h0 : devCheckM h = 0 := by rw [dev_eq]; exact bz hd
    simp only [cond_false]
    have : venCheckM_L1 c h = rvenCheckM_L1 c h := scan_eq fun j hj => by
      unfold venCheckM_B1 rvenCheckM_B1 fieldM
      have he : c.fields[j]? = some c.fields[j] := List.getElem?_eq_getElem hj
      generalize c.fields[j] = f at he
      rw [he]
      dsimp only
      rw [dup_eq]
      cases hr : ((decide (f.code < 0) || (decide (f.code > 255) || (decide (f.scale < 0) || (decide (f.scale > 1000) || decide (f.offset < -100000))))) || decide (f.offset > 100000)) with
      | true => rfl
      | false =>
        simp only [cond_false]
        cases decide (codeM (c.fields.take j) f.code ≥ 0) with
        | true => rfl
        | false =>
          simp only [cond_false, Option.getD_none]
          rw [← vattr_eq h f]
          cases ha : (vattrM h f).2 with
          | false => rfl
          | true =>
            simp only [Bool.not_true, cond_false]
            cases hk : ((vattrM h f).1.kind == 4) with
            | true => rfl
            | false =>
              simp only [cond_false]
              have hs : 0 ≤ f.scale := by
                simp only [Bool.or_eq_false_iff, decide_eq_false_iff_not, Int.not_lt] at hr
                omega
              rw [form_eq (vattr_def h0 ha) (by simpa using hk) hs]
              cases shapeM f (vattrM h f).1 <;> rfl
    rw [this]
/-- The first device with a number. -/
theorem dev_find (h : Home) (n : Int) (h0 : devCheckM h = 0) : (atM h n = -1 ∧ (devFindM h n).2 = false ∧ ∀ (j : Nat) (d : Dev), h.devices[j]? = some d → d.id ≠ n) ∨
    ∃ (j : Nat) (d : Dev), atM h n = (j : Int) ∧ h.devices[j]? = some d ∧ devFindM h n = (d, true) ∧ d.id = n := by
  have e1 : devFindM h n = (devFindM_L1 h n).getD ((⟨0, 0, 0, false, 0, ⟨#[]⟩, []⟩ : Dev), false) := by
    unfold devFindM
    rw [h0]
    rfl
  rw [at_first, e1]
  rcases firstI_cases h.devices (fun e => e.id == n) with ⟨g1, g2⟩ | ⟨j, d, g1, g2, g3, g4⟩
  · refine .inl ⟨g1, ?_, fun j d hd => by simpa using g2 j d hd⟩
    have : devFindM_L1 h n = none := scan_none fun j hj => by
      unfold devFindM_B1
      have he : h.devices[j]? = some h.devices[j] := List.getElem?_eq_getElem hj
      rw [he]
      dsimp only
      rw [g2 j _ he]
      rfl
    rw [this]
    rfl
  · refine .inr ⟨j, d, g1, g2, ?_, by simpa using g3⟩
    have : devFindM_L1 h n = some (d, true) := scan_first (j := j) (getElem_lt g2) (by unfold devFindM_B1; rw [g2]; dsimp only; rw [g3]; rfl) fun i hi => by
      unfold devFindM_B1
      have hil : i < h.devices.length := by have := getElem_lt g2; omega
      have he : h.devices[i]? = some h.devices[i] := List.getElem?_eq_getElem hil
      rw [he]
      dsimp only
      rw [g4 i _ hi he]
      rfl
    rw [this]
    rfl
theorem attr_none {c : Cluster} {x : ByteArray} (h : (attrM c x).2 = false) : attrM c x = ((⟨⟨#[]⟩, 0, 0, 0, [], false, false⟩ : Attr), false) := by
  unfold attrM at h ⊢
  cases hs : attrM_L1 c x with
  | none => rfl
  | some r =>
    obtain ⟨j, _, _, hj, _⟩ := scanN_get hs
    unfold attrM_B1 at hj
    simp only [cond_eq_ite] at hj
    repeat' split at hj
    all_goals first
      | (cases hj; done)
      | (cases hj; rw [hs] at h; cases h)
theorem find_eq (h : Home) (k : KeyV) : findM h k = rfindM h k := by
  unfold findM rfindM partM
  rw [← dev_eq]
  by_cases h0 : devCheckM h = 0
  · rw [h0]
    rcases dev_find h k.dev h0 with ⟨g1, g2, _⟩ | ⟨j, d, g1, g2, g3, _⟩
    · rw [g1, g2]
      rfl
    · rw [g1, g3]
      have e1 : decide (((j : Nat) : Int) < 0) = false := decide_eq_false (by omega)
      rw [e1]
      simp only [Int.toNat_natCast, g2, Bool.not_true, Bool.false_or, bne_self_eq_false, cond_false]
      rw [nIndex_eq]
      cases hi : decide (r04IndexM d.clusters k.cluster < 0) with
      | true => rfl
      | false =>
        simp only [cond_false]
        have hi := of_decide_eq_false hi
        have hp := part_pos (h := h) (x := k.cluster) (by rw [← dev_eq]; exact h0) g2 (by omega)
        rw [clusters_eq (all_names (devCheck_all h0))]
        rcases rclus_rel h k.cluster with ⟨r1, _⟩ | ⟨i, c, r1, r2, r3⟩
        · omega
        · rw [r1, r3]
          simp only [Int.toNat_natCast, r2, Option.isSome_some, cond_true, Option.getD_some, Bool.not_true, cond_false]
          rw [← attr_eq]
          cases ha : (attrM c k.attr).2 with
          | true => rfl
          | false => rw [attr_none ha]; rfl
  · have e1 : (devCheckM h != 0) = true := by simpa using h0
    have e2 : devFindM h k.dev = ((⟨0, 0, 0, false, 0, ⟨#[]⟩, []⟩ : Dev), false) := by unfold devFindM; rw [e1]; rfl
    rw [e1, e2, Bool.or_true]
    rfl
theorem owns_eq (c : Codec) (h : Home) (n : Int) (h0 : devCheckM h = 0) : ownsM h n c.vendor = oursM c h n := by
  have e1 : ownsM h n c.vendor = decide (ixOwnM h.devices n c.vendor ≥ 0) := rfl
  rw [e1]
  unfold oursM
  have hr : rdevCheckM h = 0 := by rw [← dev_eq]; exact h0
  rw [ixOwn_first]
  rcases firstI_cases h.devices (fun e => owns1M e n c.vendor) with ⟨g1, g2⟩ | ⟨j, d, g1, g2, g3, _⟩
  · rw [g1]
    rcases dev_find h n h0 with ⟨f1, _, _⟩ | ⟨i, e, f1, f2, _, f4⟩
    · rw [f1]; rfl
    · rw [f1]
      have := g2 i e f2
      unfold owns1M at this
      rw [f4] at this
      simp only [beq_self_eq_true, Bool.true_and] at this
      simp only [Int.toNat_natCast, f2, this, Bool.and_false]
      rfl
  · rw [g1]
    unfold owns1M at g3
    simp only [Bool.and_eq_true, beq_iff_eq] at g3
    rcases dev_find h n h0 with ⟨_, _, f3⟩ | ⟨i, e, f1, f2, _, f4⟩
    · exact absurd g3.1 (f3 j d g2)
    · obtain ⟨_, rfl⟩ := id_inj hr g2 f2 (by omega)
      rw [f1]
      simp only [Int.toNat_natCast, f2]
      rw [decide_eq_true (show ((j : Nat) : Int) ≥ 0 by omega), decide_eq_true (show ((i : Nat) : Int) ≥ 0 by omega)]
      simp [g3.2]
/-- As num_pre, for the reference's number. -/
theorem rnum_pre {c : Codec} {h : Home} {x : ItemV} {f : FieldV} {j : Nat} (h0 : rvenCheckM c h = 0) (h1 : (rfindM h x.key).2 = true) (h2 : rfitsM (rfindM h x.key).1 x.value = 0) (h4 : c.fields[j]? = some f) (hc : f.cluster = x.key.cluster) (ha : f.attr = x.key.attr) :
    (rfindM h x.key).1.kind = 3 → 0 ≤ x.value.n ∧ x.value.n < (f.map.length : Int) := by
  rw [← venCheck_eq] at h0
  rw [← find_eq] at h1 h2 ⊢
  rw [← fits_eq] at h2
  obtain ⟨_, _, hp3⟩ := venCheck_parts h0
  obtain ⟨hr, _, hv, hk, hm⟩ := field_spec (hp3 _ (getElem_lt h4)) h4
  obtain ⟨_, _, _, _, _, hfv, hd⟩ := find_vattr h1
  rw [hfv f hc ha] at hv hk hm
  obtain ⟨s1, s2, s3, s4, s5⟩ := fits_spec h2
  obtain ⟨v1, v2, v3, v4⟩ := vcheck_spec s2
  obtain ⟨f1, f2, f3⟩ := form_spec hm
  intro hk3
  have := (mapped_spec (f2 hk3).2.2).1
  have := v3 (by omega)
  have := s5 (by omega)
  omega
end Go.Proofs.Ytmjimhkbehoomaa
