/- Vendor: the number of a value; Encode is the reference's. Conditions: none. -/
import Derived.Test.YtmjimhkbehoomaaTQk
namespace Go.Proofs.Ytmjimhkbehoomaa
open Go Go.Av Go.Hh Go.Proofs
/-- The member of an interval nearest to zero. -/
def nearest (lo hi : Int) : Int := if (if hi < 0 then hi else 0) > lo then (if hi < 0 then hi else 0) else lo
/-- Trying numbers by their magnitude finds the nearest to zero. -/
theorem near {lo hi : Int} {B : Nat → Option Int} (hB : ∀ k : Nat, k ≤ 32768 → B k = if 0 < k ∧ lo ≤ -(k : Int) ∧ -(k : Int) ≤ hi then some (65536 - (k : Int)) else if k < 32768 ∧ lo ≤ (k : Int) ∧ (k : Int) ≤ hi then some (k : Int) else none) :
    (scanN B 0 32769).getD (-1) = if lo ≤ hi ∧ -32768 ≤ nearest lo hi ∧ nearest lo hi ≤ 32767 then (if nearest lo hi < 0 then 65536 + nearest lo hi else nearest lo hi) else -1 := by
  have hno : ∀ k : Nat, k ≤ 32768 → B k = none → (0 < k → lo ≤ -(k : Int) → ¬ -(k : Int) ≤ hi) ∧ (k < 32768 → lo ≤ (k : Int) → ¬ (k : Int) ≤ hi) := fun k hk hb => by
    rw [hB k hk] at hb
    split at hb
    · cases hb
    · rename_i h1
      split at hb
      · cases hb
      · rename_i h2
        exact ⟨fun a b c => h1 ⟨a, b, c⟩, fun a b c => h2 ⟨a, b, c⟩⟩
  cases hs : scanN B 0 32769 with
  | none =>
    rw [if_neg]
    · rfl
    · rintro ⟨h1, h2, h3⟩
      have a1 := hno (nearest lo hi).natAbs (by omega) (scan_at hs (by omega))
      unfold nearest at *
      by_cases g1 : hi < 0
      · rw [if_pos g1] at *
        by_cases g2 : hi > lo
        · rw [if_pos g2] at *; omega
        · rw [if_neg g2] at *; omega
      · rw [if_neg g1] at *
        by_cases g2 : (0 : Int) > lo
        · rw [if_pos g2] at *; omega
        · rw [if_neg g2] at *; omega
  | some r =>
    obtain ⟨j, _, h2, h3, h4⟩ := scanN_get hs
    have hj : j ≤ 32768 := by omega
    rw [hB j hj] at h3
    have hlow : ∀ i : Nat, i < j → (0 < i → lo ≤ -(i : Int) → ¬ -(i : Int) ≤ hi) ∧ (i < 32768 → lo ≤ (i : Int) → ¬ (i : Int) ≤ hi) := fun i hi => hno i (by omega) (h4 i (Nat.zero_le _) hi)
    split at h3
    · rename_i hc
      obtain ⟨c1, c2, c3⟩ := hc
      have z := (hlow 0 c1).2 (by omega)
      have hneg : hi < 0 := by omega
      have heq : hi = -(j : Int) := by
        have q := (hlow hi.natAbs)
        by_cases hh : hi.natAbs < j
        · have := (q hh).1 (by omega) (by omega)
          omega
        · omega
      have hn : nearest lo hi = -(j : Int) := by
        unfold nearest
        rw [if_pos hneg]
        split <;> omega
      rw [hn, if_pos ⟨by omega, by omega, by omega⟩, if_pos (by omega)]
      simp only [Option.some.injEq] at h3
      rw [← h3]
      show 65536 - (j : Int) = _
      omega
    · rename_i hc
      split at h3
      · rename_i hd
        obtain ⟨d1, d2, d3⟩ := hd
        simp only [Option.some.injEq] at h3
        have hn : nearest lo hi = (j : Int) := by
          unfold nearest
          rw [if_neg (show ¬ hi < 0 by omega)]
          by_cases hj0 : j = 0
          · split <;> omega
          · have z := (hlow 0 (by omega)).2 (by omega)
            have q := hlow lo.natAbs
            have : lo = (j : Int) := by
              by_cases hh : lo.natAbs < j
              · have := (q hh).2 (by omega) (by omega)
                omega
              · omega
            rw [if_neg (by omega)]
            exact this
        rw [hn, if_pos ⟨by omega, by omega, by omega⟩, if_neg (by omega), ← h3]
        rfl
      · cases h3
/-- The two bytes of a number of sixteen bits. -/
theorem bytes_eq {x : Int} (h1 : -32768 ≤ x) (h2 : x ≤ 65535) : IntKind.u8.wrap (x.fdiv 256) = IntKind.u8.wrap (IntKind.i64.wrap ((if x < 0 then 65536 + x else x).tdiv 256)) ∧ IntKind.u8.wrap x = IntKind.u8.wrap ((if x < 0 then 65536 + x else x).tmod 256) := by
  have hm : 0 ≤ (if x < 0 then 65536 + x else x) ∧ (if x < 0 then 65536 + x else x) ≤ 65535 := by split <;> omega
  rw [wrap_u8, wrap_u8, wrap_u8, wrap_u8, Int.fdiv_eq_ediv_of_nonneg x (by omega), Int.tdiv_eq_ediv_of_nonneg hm.1, Int.tmod_eq_emod_of_nonneg hm.1, wrap64_of _ (by omega) (by omega)]
  split <;> omega
def sameV (v w : Val) : Bool := (v.kind == w.kind) && ((v.n == w.n) && (beqS v.s w.s && true))
theorem sameV_def (v w : Val) : ((v.kind == w.kind) && ((v.n == w.n) && (beqS v.s w.s && true))) = sameV v w := rfl
theorem sameV_iff (v w : Val) : sameV v w = true ↔ v = w := by
  obtain ⟨a, b, c⟩ := v
  obtain ⟨a', b', c'⟩ := w
  unfold sameV
  simp
theorem ite2 {α : Type} {p q p' q' : Prop} [Decidable p] [Decidable q] [Decidable p'] [Decidable q'] {a b c : α} (hp : p ↔ p') (hq : q ↔ q') : (if p then a else if q then b else c) = if p' then a else if q' then b else c := by
  rw [ite_iff hp, ite_iff hq]
/-- The number of a value that fits an integer attribute. -/
theorem number_int {f : FieldV} {a : Attr} {v : Val} (hk : a.kind = 2) (hv : v.kind = 2) (hs : v.s = ⟨#[]⟩) (s1 : 0 < f.scale) (s2 : f.scale ≤ 1000) (o1 : -100000 ≤ f.offset) (o2 : f.offset ≤ 100000) (n1 : -1099511627776 ≤ v.n) (n2 : v.n ≤ 1099511627776) :
    ∃ lo hi : Int, numberM f v = (nearest lo hi, decide (lo ≤ hi ∧ -32768 ≤ nearest lo hi ∧ nearest lo hi ≤ 32767)) ∧ (∀ x : Int, (lo ≤ x ∧ x ≤ hi) ↔ x * f.scale / 10 + f.offset = v.n) ∧
      rnumberM f a v = if lo ≤ hi ∧ -32768 ≤ nearest lo hi ∧ nearest lo hi ≤ 32767 then (if nearest lo hi < 0 then 65536 + nearest lo hi else nearest lo hi) else -1 := by
  have w1 : IntKind.i64.wrap (v.n - f.offset) = v.n - f.offset := wrap64_of _ (by omega) (by omega)
  have w2 : IntKind.i64.wrap (10 * (v.n - f.offset)) = 10 * (v.n - f.offset) := wrap64_of _ (by omega) (by omega)
  have w3 : IntKind.i64.wrap (10 * (v.n - f.offset) + 10) = 10 * (v.n - f.offset) + 10 := wrap64_of _ (by omega) (by omega)
  have c1 := ceil_spec s1 (a := 10 * (v.n - f.offset)) (by omega) (by omega)
  have c2 := ceil_spec s1 (a := 10 * (v.n - f.offset) + 10) (by omega) (by omega)
  have b2 : -1000000000000000 ≤ ceilM (10 * (v.n - f.offset) + 10) f.scale ∧ ceilM (10 * (v.n - f.offset) + 10) f.scale ≤ 1000000000000000 := by
    constructor
    · by_cases h : ceilM (10 * (v.n - f.offset) + 10) f.scale ≤ -1000000000000000
      · have := (c2 _).1 h
        have a1 : (-1000000000000000 : Int) * f.scale ≤ -1000000000000000 * 1 := Int.mul_le_mul_of_nonpos_left (by omega) (by omega)
        omega
      · omega
    · refine (c2 _).2 ?_
      have a1 : (1000000000000000 : Int) * 1 ≤ 1000000000000000 * f.scale := Int.mul_le_mul_of_nonneg_left (by omega) (by omega)
      omega
  have w4 : IntKind.i64.wrap (ceilM (10 * (v.n - f.offset) + 10) f.scale - 1) = ceilM (10 * (v.n - f.offset) + 10) f.scale - 1 := wrap64_of _ (by omega) (by omega)
  have hP : ∀ x : Int, (ceilM (10 * (v.n - f.offset)) f.scale ≤ x ∧ x ≤ ceilM (10 * (v.n - f.offset) + 10) f.scale - 1) ↔ x * f.scale / 10 + f.offset = v.n := fun x => by
    have d1 := c1 x
    have d2 := c2 x
    generalize x * f.scale = y at *
    constructor
    · rintro ⟨g1, g2⟩
      have := d1.1 g1
      have : ¬ 10 * (v.n - f.offset) + 10 ≤ y := fun h => by have := d2.2 h; omega
      omega
    · intro g
      exact ⟨d1.2 (by omega), by
        by_cases h : ceilM (10 * (v.n - f.offset) + 10) f.scale ≤ x
        · have := d2.1 h; omega
        · omega⟩
  refine ⟨ceilM (10 * (v.n - f.offset)) f.scale, ceilM (10 * (v.n - f.offset) + 10) f.scale - 1, ?_, hP, ?_⟩
  · unfold numberM
    rw [hv, w1, w2, w3, w4]
    show (nearest _ _, _) = _
    congr 1
    rw [Bool.eq_iff_iff]
    simp only [Bool.and_eq_true, decide_eq_true_eq]
    exact ⟨fun ⟨⟨a, b⟩, c⟩ => ⟨a, b, c⟩, fun ⟨a, b, c⟩ => ⟨⟨a, b⟩, c⟩⟩
  · unfold rnumberM
    rw [hk]
    have e23 : ((2 : Int) == 3) = false := rfl
    rw [e23]
    simp only [cond_false]
    refine near fun k hk' => ?_
    unfold rnumberM_B1
    rw [sameV_def, sameV_def]
    rw [wrap64_of (65536 - (k : Int)) (by omega) (by omega), value_int (n := 65536 - (k : Int)) hk (by omega) (by omega) (by omega) s2 o1 o2, value_int (n := (k : Int)) hk (by omega) (by omega) (by omega) s2 o1 o2]
    have hv' : ∀ m : Int, ((⟨2, m, ⟨#[]⟩⟩ : Val) = v) ↔ m = v.n := fun m => by
      obtain ⟨a, b, c⟩ := v
      simp only at hv hs
      subst hv hs
      simp
    have q1 := hP (sgn (65536 - (k : Int)))
    have q2 := hP (sgn (k : Int))
    simp only [cond_eq_ite, Bool.and_eq_true, decide_eq_true_eq, sameV_iff, hv']
    simp only [← q1, ← q2]
    refine ite2 ?_ ?_
    · by_cases k0 : 0 < k
      · have s3 : sgn (65536 - (k : Int)) = -(k : Int) := by unfold sgn; rw [if_pos (by omega)]; omega
        rw [s3]
        exact ⟨fun g => ⟨k0, g.1.1, g.1.2⟩, fun g => ⟨⟨g.2.1, g.2.2⟩, by omega⟩⟩
      · exact ⟨fun g => absurd g.2 (by omega), fun g => absurd g.1 k0⟩
    · by_cases k1 : k < 32768
      · have s4 : sgn (k : Int) = (k : Int) := by unfold sgn; rw [if_neg (by omega)]
        rw [s4]
        exact ⟨fun g => ⟨k1, g.2.1, g.2.2⟩, fun g => ⟨by omega, g.2.1, g.2.2⟩⟩
      · exact ⟨fun g => absurd g.1 (by omega), fun g => absurd g.1 k1⟩
theorem firstI_snoc {α : Type} {l : List α} {p : α → Bool} {k : Nat} {e : α} (he : l[k]? = some e) : firstI (l.take (k + 1)) p = if 0 ≤ firstI (l.take k) p then firstI (l.take k) p else if p e = true then (k : Int) else -1 := by
  rcases firstI_cases (l.take k) p with ⟨g1, g2⟩ | ⟨j, d, g1, g2, g3, g4⟩
  · rw [g1, if_neg (by omega)]
    rcases firstI_cases (l.take (k + 1)) p with ⟨f1, f2⟩ | ⟨i, d, f1, f2, f3, f4⟩
    · rw [f1]
      have := f2 k e (by rw [List.getElem?_take, if_pos (by omega)]; exact he)
      rw [if_neg (by rw [this]; decide)]
    · rw [f1]
      rw [List.getElem?_take] at f2
      split at f2
      · rename_i hik
        by_cases hk : i < k
        · have := g2 i d (by rw [List.getElem?_take, if_pos hk]; exact f2)
          rw [this] at f3; cases f3
        · have : i = k := by omega
          subst this
          rw [he] at f2
          cases f2
          rw [if_pos f3]
      · cases f2
  · rw [g1, if_pos (by omega)]
    rw [List.getElem?_take] at g2
    split at g2
    · rename_i hjk
      rcases firstI_cases (l.take (k + 1)) p with ⟨f1, f2⟩ | ⟨i, d', f1, f2, f3, f4⟩
      · have := f2 j d (by rw [List.getElem?_take, if_pos (by omega)]; exact g2)
        rw [this] at g3; cases g3
      · rw [f1]
        rw [List.getElem?_take] at f2
        split at f2
        · rcases Nat.lt_trichotomy i j with h | h | h
          · have := g4 i d' h (by rw [List.getElem?_take, if_pos (by omega)]; exact f2)
            rw [this] at f3; cases f3
          · rw [h]
          · have := f4 j d h (by rw [List.getElem?_take, if_pos (by omega)]; exact g2)
            rw [this] at g3; cases g3
        · cases f2
    · cases g2
theorem back_loop (c : Codec) (h : Home) (l : List ItemV) (x : ItemV) (hc : c.fields.length ≤ 1000) : ∀ (k : Nat) (a : Int) (fuel : Nat), k ≤ c.fields.length → k < fuel →
    ∃ y, loopW (rencodeM_B2 c h l x) fuel (a, (k : Int) - 1) = .inr y ∧ y.1 = if 0 ≤ firstI (c.fields.take k) (fun e => enc1M e x) then firstI (c.fields.take k) (fun e => enc1M e x) else a
  | 0, a, fuel, _, hf => by
    obtain ⟨fuel, rfl⟩ : ∃ m, fuel = m + 1 := ⟨fuel - 1, by omega⟩
    have hb : rencodeM_B2 c h l x (a, ((0 : Nat) : Int) - 1) = .brk (a, ((0 : Nat) : Int) - 1) := rfl
    exact ⟨_, by rw [loopW, hb], rfl⟩
  | k + 1, a, fuel, hk, hf => by
    obtain ⟨fuel, rfl⟩ : ∃ m, fuel = m + 1 := ⟨fuel - 1, by omega⟩
    have he : c.fields[k]? = some c.fields[k] := List.getElem?_eq_getElem (by omega)
    generalize c.fields[k] = e at he
    have hb : rencodeM_B2 c h l x (a, ((k + 1 : Nat) : Int) - 1) = .nxt ((if enc1M e x = true then (k : Int) else a), (k : Int) - 1) := by
      unfold rencodeM_B2 enc1M
      dsimp only
      have e1 : ((k + 1 : Nat) : Int) - 1 = (k : Int) := by omega
      rw [e1, decide_eq_true (show (k : Int) ≥ 0 by omega)]
      simp only [cond_true, Int.toNat_natCast, he]
      rw [wrap64_of _ (by omega) (by omega)]
      cases beqS e.cluster x.key.cluster <;> cases beqS e.attr x.key.attr <;> rfl
    obtain ⟨y, ih, ih2⟩ := back_loop c h l x hc k (if enc1M e x = true then (k : Int) else a) fuel (by omega) (by omega)
    refine ⟨y, by rw [loopW, hb]; exact ih, ?_⟩
    rw [ih2, firstI_snoc he]
    by_cases h1 : 0 ≤ firstI (c.fields.take k) (fun e => enc1M e x)
    · rw [if_pos h1, if_pos h1, if_pos h1]
    · rw [if_neg h1, if_neg h1]
      by_cases h2 : enc1M e x = true
      · rw [if_pos h2, if_pos (by simp [h2]), if_pos h2]
      · rw [if_neg h2, if_neg (by simp [h2])]
theorem ixEnc_eq (c : Codec) (h : Home) (l : List ItemV) (x : ItemV) (hc : c.fields.length ≤ 1000) : (rencodeM_L2 c h l x (-1, IntKind.i64.wrap (((c.fields.length : Nat) : Int) - 1))).1 = ixEncM c.fields x := by
  unfold rencodeM_L2
  obtain ⟨y, h1, h2⟩ := back_loop c h l x hc c.fields.length (-1) (c.fields.length + 1) (Nat.le_refl _) (by omega)
  rw [wrap64_of _ (by omega) (by omega)]
  unfold loopV
  rw [h1]
  show y.1 = _
  rw [h2, List.take_of_length_le (Nat.le_refl _), ixEnc_first]
  rcases firstI_cases c.fields (fun e => enc1M e x) with ⟨g1, _⟩ | ⟨j, d, g1, _⟩
  · rw [g1]; rfl
  · rw [g1, if_pos (by omega)]
/-- What is known of an item that Encode takes. -/
theorem enc_item {c : Codec} {h : Home} {x : ItemV} (h0 : venCheckM c h = 0) (h1 : (findM h x.key).2 = true) (h2 : fitsM (findM h x.key).1 x.value = 0) (h3 : 0 ≤ ixEncM c.fields x) :
    ∃ f, c.fields[(ixEncM c.fields x).toNat]? = some f ∧ f.cluster = x.key.cluster ∧ f.attr = x.key.attr ∧ formM f (findM h x.key).1 = true ∧ (findM h x.key).1.kind ≠ 4 ∧ (0 ≤ f.code ∧ f.code ≤ 255 ∧ 0 ≤ f.scale ∧ f.scale ≤ 1000 ∧ -100000 ≤ f.offset ∧ f.offset ≤ 100000) := by
  obtain ⟨f, h4, hp⟩ := firstI_at (l := c.fields) (p := fun e => enc1M e x) (ixEnc_first c.fields x ▸ h3)
  rw [← ixEnc_first] at h4
  unfold enc1M at hp
  simp only [Bool.and_eq_true] at hp
  obtain ⟨_, _, hp3⟩ := venCheck_parts h0
  obtain ⟨hr, _, hv, hk, hm⟩ := field_spec (hp3 _ (getElem_lt h4)) h4
  obtain ⟨_, _, _, _, _, hfv, _⟩ := find_vattr h1
  rw [hfv f (beqS_true.1 hp.1) (beqS_true.1 hp.2)] at hv hk hm
  exact ⟨f, h4, beqS_true.1 hp.1, beqS_true.1 hp.2, hm, hk, hr⟩
theorem enc_step (c : Codec) (h : Home) (l : List ItemV) (hc : c.fields.length ≤ 1000) (h0 : venCheckM c h = 0) (k : Nat) (a : List Int) : encodeM_B1 c h l k a = rencodeM_B1 c h l k a := by
  unfold encodeM_B1 rencodeM_B1
  dsimp only
  cases hx : l[k]? with
  | none => rfl
  | some x =>
    dsimp only
    rw [← find_eq, owns_eq c h x.key.dev (venCheck_parts h0).1, ixEnc_eq c h l x hc, ← fits_eq]
    cases hq : (!(findM h x.key).2 || !(oursM c h x.key.dev)) with
    | true => rfl
    | false =>
      simp only [cond_false]
      cases hi : decide (ixEncM c.fields x < 0) with
      | true => rfl
      | false =>
        simp only [cond_false]
        cases hf : (fitsM (findM h x.key).1 x.value != 0) with
        | true => rfl
        | false =>
          simp only [cond_false]
          have hft := bz hf
          have hi := of_decide_eq_false hi
          obtain ⟨f, e1, _, _, e4, e5, e6⟩ := enc_item h0 (or_not hq).1 hft (by omega)
          rw [e1]
          dsimp only
          obtain ⟨s1, s2, s3, s4, s5⟩ := fits_spec hft
          obtain ⟨v1, v2, v3, v4⟩ := vcheck_spec s2
          obtain ⟨f1, f2, f3⟩ := form_spec e4
          have hdk := def_kind s1
          generalize (findM h x.key).1 = at_ at *
          by_cases k1 : at_.kind = 1
          · have hn : numberM f x.value = (x.value.n, true) := by
              unfold numberM
              rw [show (x.value.kind == 1) = true by simp; omega]
              rfl
            have hv := v1 (by omega)
            rw [hn, show (at_.kind != 1) = false by simp [k1], decide_eq_false (show ¬ x.value.n < 0 by omega)]
            simp only [Bool.not_true, cond_false]
            have hb := bytes_eq (x := x.value.n) (by omega) (by omega)
            rw [if_neg (by omega)] at hb
            rw [hb.1, hb.2]
          · rw [show (at_.kind != 1) = true by simpa using k1]
            simp only [cond_true]
            by_cases k3 : at_.kind = 3
            · have hv := v3 (by omega)
              have hs5 := s5 (by omega)
              obtain ⟨m1, m2⟩ := mapped_spec (f2 k3).2.2
              have hlt : x.value.n.toNat < f.map.length := by omega
              have hg : f.map[x.value.n.toNat]? = some f.map[x.value.n.toNat] := List.getElem?_eq_getElem hlt
              generalize f.map[x.value.n.toNat] = y at hg
              obtain ⟨y1, y2, _⟩ := m2 _ _ hg
              have hn : numberM f x.value = (y, true) := by
                unfold numberM
                rw [show (x.value.kind == 1) = false by simp; omega, show (x.value.kind == 3) = true by simp; omega, hg]
                rfl
              have hr : rnumberM f at_ x.value = y := by
                unfold rnumberM
                rw [show (at_.kind == 3) = true by simpa using k3, hg]
                rfl
              rw [hn, hr, decide_eq_false (show ¬ y < 0 by omega)]
              simp only [Bool.not_true, cond_false]
              have hb := bytes_eq (x := y) (by omega) (by omega)
              rw [if_neg (by omega)] at hb
              rw [hb.1, hb.2]
            · have k2 : at_.kind = 2 := by omega
              have hsc := (f1 k2).1
              have hv := v2 (by omega)
              obtain ⟨lo, hi', g1, _, g3⟩ := number_int (f := f) (a := at_) (v := x.value) k2 (by omega) (v4 (by omega)) (by omega) (by omega) (by omega) (by omega) hv.1 hv.2
              rw [g1, g3]
              by_cases hok : lo ≤ hi' ∧ -32768 ≤ nearest lo hi' ∧ nearest lo hi' ≤ 32767
              · rw [decide_eq_true hok, if_pos hok]
                have hb := bytes_eq (x := nearest lo hi') (by omega) (by omega)
                rw [decide_eq_false (show ¬ (if nearest lo hi' < 0 then 65536 + nearest lo hi' else nearest lo hi') < 0 by split <;> omega)]
                simp only [Bool.not_true, cond_false]
                rw [hb.1, hb.2]
              · rw [decide_eq_false hok, if_neg hok]
                rfl
theorem encode_eq (c : Codec) (h : Home) (l : List ItemV) (hc : c.fields.length ≤ 1000) : encodeM c h l = rencodeM c h l := by
  unfold encodeM rencodeM
  rw [← venCheck_eq]
  cases hd : (venCheckM c h != 0) with
  | true => rfl
  | false =>
    simp only [cond_false]
    have : encodeM_L1 c h l [] = rencodeM_L1 c h l [] := loopS_congr (fun k a => enc_step c h l hc (bz hd) k a) _ _ _
    rw [this]
end Go.Proofs.Ytmjimhkbehoomaa
