/- Vendor: numbers; what Decode makes of the bytes, three by three. Conditions: none. -/
import Derived.Test.YtmjimhkbehoomaaUB7
namespace Go.Proofs.Ytmjimhkbehoomaa
open Go Go.Av Go.Hh Go.Proofs
theorem sat_id {a : Int} (h1 : -1099511627776 ≤ a) (h2 : a ≤ 1099511627776) : satM a = a := by
  unfold satM
  rw [if_neg (show ¬ (-1099511627776 > a) by omega), if_neg (by omega)]
theorem sat_eq (a : Int) : satM a = rsatM a := by
  unfold satM rsatM
  simp only [cond_eq_ite, decide_eq_true_eq]
  repeat' split
  all_goals omega
theorem floor_eq (a b : Int) : floorM a b = rfloorM a b := by
  unfold floorM rfloorM
  rw [sat_eq a, sat_eq b]
theorem tdiv_neg {a : Int} (b : Int) (h : a < 0) : a.tdiv b = -((-a) / b) := by
  rw [← Int.tdiv_eq_ediv_of_nonneg (by omega : 0 ≤ -a), Int.neg_tdiv, Int.neg_neg]
theorem tmod_neg {a : Int} (b : Int) (h : a < 0) : a.tmod b = -((-a) % b) := by
  rw [← Int.tmod_eq_emod_of_nonneg (by omega : 0 ≤ -a), Int.neg_tmod, Int.neg_neg]
theorem floor10 {a : Int} (h1 : -1099511627776 ≤ a) (h2 : a ≤ 1099511627776) : floorM a 10 = a / 10 := by
  unfold floorM
  rw [sat_id h1 h2, sat_id (a := 10) (by omega) (by omega)]
  have e10 : ((10 : Int) == 0) = false := rfl
  have e11 : decide ((10 : Int) < 0) = false := rfl
  rw [e10, e11]
  simp only [cond_false]
  by_cases h : a < 0
  · rw [tdiv_neg 10 h, tmod_neg 10 h, decide_eq_true h]
    by_cases hq : (-a) % 10 = 0
    · rw [hq]
      show IntKind.i64.wrap (-((-a) / 10)) = _
      rw [wrap64_of _ (by omega) (by omega)]
      omega
    · have hx : ((-((-a) % 10)) != 0) = true := by simp; omega
      rw [hx]
      show IntKind.i64.wrap (IntKind.i64.wrap (-((-a) / 10)) - 1) = _
      rw [wrap64_of (-((-a) / 10)) (by omega) (by omega), wrap64_of _ (by omega) (by omega)]
      omega
  · rw [Int.tdiv_eq_ediv_of_nonneg (by omega), decide_eq_false (show ¬ a < 0 by omega)]
    have hx : (a.tmod 10 != 0 && !(false == false)) = false := by simp
    rw [hx, wrap64_of (a / 10) (by omega) (by omega)]
    rfl
theorem ceil_spec {a b : Int} (hb : 0 < b) (h1 : -1099511627776000 ≤ a) (h2 : a ≤ 1099511627776000) (x : Int) : ceilM a b ≤ x ↔ a ≤ x * b := by
  have e := Int.mul_tdiv_add_tmod a b
  have r1 := Int.tmod_lt_of_pos a hb
  have r2 := Int.lt_tmod_of_pos a hb
  have hq := Int.natAbs_tdiv_le_natAbs a b
  have hc : ceilM a b = if a.tmod b > 0 then a.tdiv b + 1 else a.tdiv b := by
    unfold ceilM
    simp only [cond_eq_ite, decide_eq_true_eq]
    rw [wrap64_of (a.tdiv b) (by omega) (by omega), wrap64_of (a.tdiv b + 1) (by omega) (by omega)]
  rw [hc]
  generalize a.tdiv b = q at *
  generalize a.tmod b = r at *
  have hqb : q * b = b * q := Int.mul_comm q b
  split
  · constructor
    · intro h
      have := Int.mul_le_mul_of_nonneg_right h (Int.le_of_lt hb)
      rw [Int.add_mul] at this
      omega
    · intro h
      by_cases hx : x < q + 1
      · have := Int.mul_le_mul_of_nonneg_right (show x ≤ q by omega) (Int.le_of_lt hb)
        omega
      · omega
  · constructor
    · intro h
      have := Int.mul_le_mul_of_nonneg_right h (Int.le_of_lt hb)
      omega
    · intro h
      by_cases hx : x < q
      · have := Int.mul_le_mul_of_nonneg_right (show x + 1 ≤ q by omega) (Int.le_of_lt hb)
        rw [Int.add_mul] at this
        omega
      · omega
theorem wrap_u8 (n : Int) : IntKind.u8.wrap n = n % 256 := by
  unfold IntKind.wrap
  simp [IntKind.signed, IntKind.bits]
theorem wrap_i16 (n : Int) (h1 : 0 ≤ n) (h2 : n ≤ 65535) : IntKind.i16.wrap n = if n > 32767 then n - 65536 else n := by
  have e : IntKind.i16.wrap n = if n % 65536 ≥ 32768 then n % 65536 - 65536 else n % 65536 := by
    unfold IntKind.wrap
    simp [IntKind.signed, IntKind.bits]
  rw [e, Int.emod_eq_of_lt h1 (by omega)]
  split <;> split <;> omega
theorem or_bytes {a b : Nat} (ha : a < 256) (hb : b < 256) : orI .i64 (IntKind.i64.wrap (IntKind.i64.wrap (a : Int) * 256)) (IntKind.i64.wrap (b : Int)) = ((a * 256 + b : Nat) : Int) := by
  rw [wrap64_of (a : Int) (by omega) (by omega), wrap64_of ((a : Int) * 256) (by omega) (by omega), wrap64_of (b : Int) (by omega) (by omega)]
  unfold orI
  have e1 : (BitVec.ofInt IntKind.i64.bits ((a : Int) * 256)).toNat = a * 256 := by
    rw [BitVec.toNat_ofInt]
    show (((a : Int) * 256) % ((2 ^ 64 : Nat) : Int)).toNat = a * 256
    rw [Int.emod_eq_of_lt (by omega) (by omega)]
    omega
  have e2 : (BitVec.ofInt IntKind.i64.bits (b : Int)).toNat = b := by
    rw [BitVec.toNat_ofInt]
    show ((b : Int) % ((2 ^ 64 : Nat) : Int)).toNat = b
    rw [Int.emod_eq_of_lt (by omega) (by omega)]
    omega
  rw [BitVec.toNat_or, e1, e2]
  have h := Nat.shiftLeft_add_eq_or_of_lt (i := 8) (b := b) (by omega) a
  rw [Nat.shiftLeft_eq] at h
  rw [show a * 256 = a * 2 ^ 8 from rfl, ← h, wrap64_of _ (by omega) (by omega)]
theorem add_bytes {a b : Nat} (ha : a < 256) (hb : b < 256) : IntKind.i64.wrap (IntKind.i64.wrap (IntKind.i64.wrap (a : Int) * 256) + IntKind.i64.wrap (b : Int)) = ((a * 256 + b : Nat) : Int) := by
  rw [wrap64_of (a : Int) (by omega) (by omega), wrap64_of ((a : Int) * 256) (by omega) (by omega), wrap64_of (b : Int) (by omega) (by omega), wrap64_of _ (by omega) (by omega)]
  omega
/-- The number with a sign of sixteen bits. -/
def sgn (n : Int) : Int := if n > 32767 then n - 65536 else n
theorem value_int {f : FieldV} {a : Attr} {n : Int} (h : a.kind = 2) (h1 : 0 ≤ n) (h2 : n ≤ 65536) (s1 : 0 ≤ f.scale) (s2 : f.scale ≤ 1000) (o1 : -100000 ≤ f.offset) (o2 : f.offset ≤ 100000) : rvalueM f a n = ⟨2, sgn n * f.scale / 10 + f.offset, ⟨#[]⟩⟩ := by
  unfold rvalueM
  rw [h]
  have e21 : ((2 : Int) == 1) = false := rfl
  rw [e21]
  simp only [beq_self_eq_true, cond_true, cond_false]
  have hs : (bif decide (n > 32767) then IntKind.i64.wrap (n - 65536) else n) = sgn n := by
    unfold sgn
    simp only [cond_eq_ite, decide_eq_true_eq]
    split
    · rw [wrap64_of _ (by omega) (by omega)]
    · rfl
  rw [hs]
  have hb : -32768 ≤ sgn n ∧ sgn n ≤ 32767 := by unfold sgn; split <;> omega
  generalize sgn n = x at hb
  have m1 : x * f.scale ≤ 32768000 := by
    have a1 := Int.mul_le_mul_of_nonneg_right hb.2 s1
    omega
  have m2 : -32768000 ≤ x * f.scale := by
    have a1 := Int.mul_le_mul_of_nonneg_right hb.1 s1
    omega
  rw [wrap64_of (x * f.scale) (by omega) (by omega), ← floor_eq, floor10 (by omega) (by omega), wrap64_of _ (by omega) (by omega)]
theorem value_enum {f : FieldV} {a : Attr} {n : Int} (h : a.kind = 3) : rvalueM f a n = ⟨3, rindexM f.map n, ⟨#[]⟩⟩ := by
  unfold rvalueM
  rw [h]
  rfl
theorem read_eq {f : FieldV} {a : Attr} {n : Int} (k1 : 1 ≤ a.kind) (k2 : a.kind ≤ 3) (h1 : 0 ≤ n) (h2 : n ≤ 65535) : (readM f a n).2 = (fitsM a (rvalueM f a n) == 0) ∧ ((readM f a n).2 = true → (readM f a n).1 = rvalueM f a n) := by
  have hv : (⟨a.kind, (bif (a.kind == 1) then (bif (IntKind.i64.wrap (IntKind.i16.wrap n) != 0) then 1 else 0) else (bif (a.kind == 2) then IntKind.i64.wrap (floorM (IntKind.i64.wrap (IntKind.i64.wrap (IntKind.i16.wrap n) * f.scale)) 10 + f.offset) else iIndexM f.map n)), ⟨#[]⟩⟩ : Val) = rvalueM f a n := by
    have e1 : IntKind.i64.wrap (IntKind.i16.wrap n) = (bif decide (n > 32767) then IntKind.i64.wrap (n - 65536) else n) := by
      rw [wrap_i16 n h1 h2]
      simp only [cond_eq_ite, decide_eq_true_eq]
      split
      · rfl
      · exact wrap64_of _ (by omega) (by omega)
    rw [e1]
    unfold rvalueM
    by_cases h1 : a.kind = 1
    · rw [h1]
      simp only [beq_self_eq_true, cond_true]
      cases hz : ((bif decide (n > 32767) then IntKind.i64.wrap (n - 65536) else n) != 0) with
      | true => rfl
      | false => rw [bz hz]
    · have e2 : (a.kind == 1) = false := by simpa using h1
      rw [e2]
      simp only [cond_false]
      by_cases h2 : a.kind = 2
      · rw [h2]
        simp only [beq_self_eq_true, cond_true]
        rw [floor_eq]
      · have e3 : (a.kind == 2) = false := by simpa using h2
        have h3 : a.kind = 3 := by omega
        rw [e3, h3]
        simp only [cond_false]
        rw [index_eq]
  unfold readM
  rw [hv]
  cases hc : ((a.kind == 1) || ((a.kind == 2) || !(decide (iIndexM f.map n < 0)))) with
  | true => exact ⟨rfl, fun _ => rfl⟩
  | false =>
    refine ⟨?_, fun h => by cases h⟩
    simp only [Bool.or_eq_false_iff, beq_eq_false_iff_ne, ne_eq, Bool.not_eq_false', decide_eq_true_eq] at hc
    show false = _
    symm
    rw [beq_eq_false_iff_ne]
    intro hf
    have h3 : a.kind = 3 := by omega
    rw [value_enum h3, ← index_eq] at hf
    have := (vcheck_spec (fits_spec hf).2.1).2.2.1 rfl
    have := this.1
    dsimp only at this
    omega

/-- What three bytes stand for. -/
def dec3 (c : Codec) (h : Home) (n : Int) (x y z : UInt8) : Int ⊕ ItemV :=
  match c.fields[(codeM c.fields ((x.toNat : Nat) : Int)).toNat]? with
  | none => .inl 7
  | some f => if codeM c.fields ((x.toNat : Nat) : Int) < 0 then .inl 7
    else if (findM h ⟨n, f.cluster, f.attr⟩).2 = false then .inl 8
    else if fitsM (findM h ⟨n, f.cluster, f.attr⟩).1 (rvalueM f (findM h ⟨n, f.cluster, f.attr⟩).1 ((y.toNat * 256 + z.toNat : Nat) : Int)) ≠ 0 then .inl 2
    else .inr ⟨⟨n, f.cluster, f.attr⟩, rvalueM f (findM h ⟨n, f.cluster, f.attr⟩).1 ((y.toNat * 256 + z.toNat : Nat) : Int), 0⟩
end Go.Proofs.Ytmjimhkbehoomaa
