/- Numbers, texts, values, readers: the spec functions. Conditions: none. -/
import Derived.Test.YtmkpmgfieagphaaGreatDoorPTEk
import Derived.Laws.RangeString
import Derived.Laws.RangeAny
import Derived.Laws.BitsAllLaws
import Derived.Laws.DeepNot64
import Derived.Test.YtmkpmgfieagphaaGreatDoorPPm
import Derived.Test.YtmkpmgfieagphaaGreatDoorPPg
namespace Go.Av
open Go Go.Av Go.Hh
abbrev RRd := Rd2
def varintM_B1 (s : ByteArray) (k1_ : Nat) (x_ : Int) : Step (Int × Int × Int) (Int) :=
 match x_ with
 | (a1_0) => (match (s.data.toList)[k1_]? with | some e1_ => (bif ((decide ((k1_ : Int) > 0) && ((e1_.toNat : Int) == 0)) || (((k1_ : Int) == 9) && decide ((e1_.toNat : Int) > 1))) then .ret (0, 0, 4) else (bif decide ((e1_.toNat : Int) < 128) then .ret (orI .u64 a1_0 (IntKind.u64.wrap ((IntKind.u64.wrap (andI .u8 (e1_.toNat : Int) 127)) * 2 ^ (min (IntKind.i64.wrap (7 * (k1_ : Int))).toNat 64))), ((k1_ + 1 : Nat) : Int), 0) else .nxt (orI .u64 a1_0 (IntKind.u64.wrap ((IntKind.u64.wrap (andI .u8 (e1_.toNat : Int) 127)) * 2 ^ (min (IntKind.i64.wrap (7 * (k1_ : Int))).toNat 64)))))) | none => .nxt x_)
def varintM_L1 (s : ByteArray) (x_ : Int) : (Int × Int × Int) ⊕ (Int) := loopS (varintM_B1 s) 0 s.size x_
def varintM (s : ByteArray) : Int × Int × Int :=
 (match (varintM_L1 s (0)) with | .inl r_ => r_ | .inr (a1_0) => (0, 0, 5))
def rdErrM (r : Rd) : (Int) :=
 (bif !r.made then 15 else r.err)
def rdIntM (r : Rd) : (Int × Rd) :=
 (bif ((rdErrM r) != 0) then (0, r) else (bif ((((varintM r.rest).2).2) != 0) then (0, (⟨r.rest, (((varintM r.rest).2).2), r.made⟩ : Rd)) else (xorI .i64 (IntKind.i64.wrap (((varintM r.rest).1).fdiv 2)) (IntKind.i64.wrap (0 - IntKind.i64.wrap (andI .u64 ((varintM r.rest).1) 1))), (⟨r.rest.extract ((((varintM r.rest).2).1).toNat) r.rest.size, r.err, r.made⟩ : Rd))))
def rdCountM (r : Rd) (n : Int) : (Int × Rd) :=
 (bif ((rdErrM ((rdIntM r).2)) != 0) then (0, ((rdIntM r).2)) else (bif decide ((rdIntM r).1 < 0) then (0, (⟨((rdIntM r).2).rest, 4, ((rdIntM r).2).made⟩ : Rd)) else (bif decide ((rdIntM r).1 > (if 0 > n then 0 else n)) then (0, (⟨((rdIntM r).2).rest, 3, ((rdIntM r).2).made⟩ : Rd)) else ((rdIntM r).1, ((rdIntM r).2)))))
def rdTextM (r : Rd) (n : Int) : (ByteArray × Rd) :=
 (bif ((rdErrM ((rdCountM r n).2)) != 0) then (⟨#[]⟩, ((rdCountM r n).2)) else (bif decide ((rdCountM r n).1 > (((((rdCountM r n).2).rest).size : Nat) : Int)) then (⟨#[]⟩, (⟨((rdCountM r n).2).rest, 5, ((rdCountM r n).2).made⟩ : Rd)) else ((((rdCountM r n).2).rest).extract 0 (((rdCountM r n).1).toNat), (⟨(((rdCountM r n).2).rest).extract (((rdCountM r n).1).toNat) (((rdCountM r n).2).rest).size, ((rdCountM r n).2).err, ((rdCountM r n).2).made⟩ : Rd))))
def rdFailM (r : Rd) (e : Int) : (Rd) :=
 (bif ((rdErrM r) == 0) then (⟨r.rest, e, r.made⟩ : Rd) else r)
def rdLeftM (r : Rd) : (Int) :=
 (bif ((rdErrM r) != 0) then 0 else (r.rest.size : Int))
def rdEndM (r : Rd) : (Int) :=
 (bif decide ((rdLeftM r) > 0) then 23 else (rdErrM r))
def inRangeM (n : Int) : Bool :=
 (decide (n ≥ -1099511627776) && decide (n ≤ 1099511627776))
def vCheckM (v : Val) : Int :=
 (bif (((v.kind == 0) || (v.kind == 4)) || ((v.kind == 1) || ((v.kind == 2) || (v.kind == 3)))) then (bif !(bif ((v.kind == 0) || (v.kind == 4)) then (v.n == 0) else (bif (v.kind == 1) then ((v.n == 0) || (v.n == 1)) else (bif (v.kind == 2) then inRangeM v.n else (decide (v.n ≥ 0) && decide (v.n ≤ 63))))) then 2 else (bif decide ((v.s.size : Int) > 60) then 3 else (bif (!beqS v.s (⟨#[]⟩) && (v.kind != 4)) then 4 else 0))) else 7)
def rvCheckM (v : Val) : Int :=
 (bif (((v.kind == 0) || (v.kind == 4)) || ((v.kind == 1) || ((v.kind == 2) || (v.kind == 3)))) then (bif (decide (v.n < (bif (((v.kind == 0) || (v.kind == 4)) || ((v.kind == 1) || !(v.kind == 2))) then 0 else -1099511627776)) || decide (v.n > (bif ((v.kind == 0) || (v.kind == 4)) then 0 else (bif (v.kind == 1) then 1 else (bif (v.kind == 2) then 1099511627776 else 63))))) then 2 else (bif decide ((v.s.size : Int) > 60) then 3 else (bif (!beqS v.s (⟨#[]⟩) && (v.kind != 4)) then 4 else 0))) else 7)
def takeM_v1 (r : Rd) : Val := (bif (((rdIntM r).1 == 1) || (((rdIntM r).1 == 2) || ((rdIntM r).1 == 3))) then (⟨(rdIntM r).1, (rdIntM ((rdIntM r).2)).1, ⟨#[]⟩⟩ : Val) else (bif ((rdIntM r).1 == 4) then (⟨(rdIntM r).1, 0, (rdTextM ((rdIntM r).2) 60).1⟩ : Val) else (⟨(rdIntM r).1, 0, ⟨#[]⟩⟩ : Val)))
def takeM_v2 (r : Rd) : Rd := (bif (((rdIntM r).1 == 1) || (((rdIntM r).1 == 2) || ((rdIntM r).1 == 3))) then ((rdIntM ((rdIntM r).2)).2) else (bif ((rdIntM r).1 == 4) then ((rdTextM ((rdIntM r).2) 60).2) else ((rdIntM r).2)))
def takeM_v3 (r : Rd) : Rd := (bif (vCheckM (takeM_v1 r) != 0) then (rdFailM (takeM_v2 r) 4) else (takeM_v2 r))
def takeM (r : Rd) : (Val × Rd) :=
 (bif ((rdErrM (takeM_v3 r)) != 0) then ((⟨0, 0, ⟨#[]⟩⟩ : Val), (takeM_v3 r)) else ((takeM_v1 r), (takeM_v3 r)))
def rrErrM (r : RRd) : (Int) :=
 (bif !r.made then 15 else r.bad)
def rrIntM_B1 (r : RRd) (k1_ : Nat) (x_ : Int) : Step (Int × RRd) (Int) :=
 match x_ with
 | (a1_0) => (bif decide (IntKind.i64.wrap (r.at_ + (k1_ : Int)) ≥ (r.s.size : Int)) then .ret (0, (⟨r.s, r.at_, 5, r.made⟩ : RRd)) else (match (r.s.data.toList)[(IntKind.i64.wrap (r.at_ + (k1_ : Int))).toNat]? with | some e1_ => (bif ((decide ((k1_ : Int) > 0) && ((e1_.toNat : Int) == 0)) || (((k1_ : Int) == 9) && decide ((e1_.toNat : Int) > 1))) then .ret (0, (⟨r.s, r.at_, 4, r.made⟩ : RRd)) else (bif decide ((e1_.toNat : Int) < 128) then .ret ((bif ((orI .u64 a1_0 (IntKind.u64.wrap ((IntKind.u64.wrap ((e1_.toNat : Int).tmod 128)) * 2 ^ (min (IntKind.i64.wrap (7 * (k1_ : Int))).toNat 64)))).tmod 2 == 1) then IntKind.i64.wrap (-1 - IntKind.i64.wrap ((orI .u64 a1_0 (IntKind.u64.wrap ((IntKind.u64.wrap ((e1_.toNat : Int).tmod 128)) * 2 ^ (min (IntKind.i64.wrap (7 * (k1_ : Int))).toNat 64)))).fdiv 2)) else IntKind.i64.wrap ((orI .u64 a1_0 (IntKind.u64.wrap ((IntKind.u64.wrap ((e1_.toNat : Int).tmod 128)) * 2 ^ (min (IntKind.i64.wrap (7 * (k1_ : Int))).toNat 64)))).fdiv 2)), (⟨r.s, IntKind.i64.wrap (IntKind.i64.wrap (r.at_ + (k1_ : Int)) + 1), r.bad, r.made⟩ : RRd)) else .nxt (orI .u64 a1_0 (IntKind.u64.wrap ((IntKind.u64.wrap ((e1_.toNat : Int).tmod 128)) * 2 ^ (min (IntKind.i64.wrap (7 * (k1_ : Int))).toNat 64)))))) | none => .nxt x_))
def rrIntM_L1 (r : RRd) (x_ : Int) : (Int × RRd) ⊕ (Int) := loopS (rrIntM_B1 r) 0 10 x_
def rrIntM (r : RRd) : (Int × RRd) :=
 (bif ((rrErrM r) != 0) then (0, r) else (match (rrIntM_L1 r (0)) with | .inl r_ => r_ | .inr (a1_0) => (0, r)))
def rrCountM (r : RRd) (n : Int) : (Int × RRd) :=
 (bif ((rrErrM ((rrIntM r).2)) != 0) then (0, ((rrIntM r).2)) else (bif decide ((rrIntM r).1 < 0) then (0, (⟨((rrIntM r).2).s, ((rrIntM r).2).at_, 4, ((rrIntM r).2).made⟩ : RRd)) else (bif decide ((rrIntM r).1 > (bif decide (n < 0) then 0 else n)) then (0, (⟨((rrIntM r).2).s, ((rrIntM r).2).at_, 3, ((rrIntM r).2).made⟩ : RRd)) else ((rrIntM r).1, ((rrIntM r).2)))))
def rrTextM (r : RRd) (n : Int) : (ByteArray × RRd) :=
 (bif ((rrErrM ((rrCountM r n).2)) != 0) then (⟨#[]⟩, ((rrCountM r n).2)) else (bif decide ((rrCountM r n).1 > IntKind.i64.wrap ((((((rrCountM r n).2).s).size : Nat) : Int) - ((rrCountM r n).2).at_)) then (⟨#[]⟩, (⟨((rrCountM r n).2).s, ((rrCountM r n).2).at_, 5, ((rrCountM r n).2).made⟩ : RRd)) else ((((rrCountM r n).2).s).extract ((((rrCountM r n).2).at_).toNat) ((((rrCountM r n).2).at_ + (rrCountM r n).1).toNat), (⟨((rrCountM r n).2).s, IntKind.i64.wrap (((rrCountM r n).2).at_ + (rrCountM r n).1), ((rrCountM r n).2).bad, ((rrCountM r n).2).made⟩ : RRd))))
def rtakeM_v1 (r : RRd) : Val := (bif ((rrIntM r).1 == 4) then (⟨(rrIntM r).1, 0, (rrTextM ((rrIntM r).2) 60).1⟩ : Val) else (⟨(rrIntM r).1, 0, ⟨#[]⟩⟩ : Val))
def rtakeM_v2 (r : RRd) : RRd := (bif ((rrIntM r).1 == 4) then ((rrTextM ((rrIntM r).2) 60).2) else ((rrIntM r).2))
def rtakeM_v4 (r : RRd) : RRd := (bif (decide ((rtakeM_v1 r).kind ≥ 1) && decide ((rtakeM_v1 r).kind ≤ 3)) then ((rrIntM (rtakeM_v2 r)).2) else (rtakeM_v2 r))
def rtakeM_v3 (r : RRd) : Val := (bif (decide ((rtakeM_v1 r).kind ≥ 1) && decide ((rtakeM_v1 r).kind ≤ 3)) then (⟨(rtakeM_v1 r).kind, (rrIntM (rtakeM_v2 r)).1, (rtakeM_v1 r).s⟩ : Val) else (rtakeM_v1 r))
def rrFailM (r : RRd) (e : Int) : (RRd) :=
 (bif ((rrErrM r) == 0) then (⟨r.s, r.at_, e, r.made⟩ : RRd) else r)
def rtakeM_v5 (r : RRd) : RRd := (bif (((rrErrM (rtakeM_v4 r)) == 0) && (rvCheckM (rtakeM_v3 r) != 0)) then (rrFailM (rtakeM_v4 r) 4) else (rtakeM_v4 r))
def rtakeM (r : RRd) : (Val × RRd) :=
 (bif ((rrErrM (rtakeM_v5 r)) != 0) then ((⟨0, 0, ⟨#[]⟩⟩ : Val), (rtakeM_v5 r)) else ((rtakeM_v3 r), (rtakeM_v5 r)))
def rrEndM (r : RRd) : (Int) :=
 (bif ((rrErrM r) != 0) then (rrErrM r) else (bif decide (r.at_ < (r.s.size : Int)) then 23 else 0))
def newRd (s : ByteArray) : Rd := (⟨s, 0, true⟩ : Rd)
def newRRd (s : ByteArray) : RRd := (⟨s, 0, 0, true⟩ : RRd)
def RdOk (r : RRd) : Prop := 0 ≤ r.at_ ∧ r.at_ ≤ (r.s.size : Int) ∧ r.s.size ≤ 4611686018427387904
open Classical in
theorem bz {a : Int} (h : (a != 0) = false) : a = 0 := by simpa using h
theorem ite_iff {α : Type} {p q : Prop} [Decidable p] [Decidable q] {a b : α} (h : p ↔ q) : (if p then a else b) = if q then a else b := by
 by_cases hp : p
 ·rw [if_pos hp, if_pos (h.1 hp)]
 ·rw [if_neg hp, if_neg fun hq => hp (h.2 hq)]
theorem ite_swap {α : Type} {p q : Prop} [Decidable p] [Decidable q] {a b : α} (h : p ↔ ¬ q) : (if p then a else b) = if q then b else a := by
 by_cases hq : q
 ·rw [if_pos hq, if_neg fun hp => h.1 hp hq]
 ·rw [if_neg hq, if_pos (h.2 hq)]
theorem vcheck_eq (v : Val) : vCheckM v = rvCheckM v := by
 unfold vCheckM rvCheckM inRangeM
 simp only [cond_eq_ite]
 by_cases h0 : v.kind = 0
 ·simp [h0]
  apply ite_swap
  omega
 by_cases h4 : v.kind = 4
 ·simp [h4]
  apply ite_swap
  omega
 by_cases h1 : v.kind = 1
 ·simp [h1]
  apply ite_iff
  omega
 by_cases h2 : v.kind = 2
 ·simp [h2]
 by_cases h3 : v.kind = 3
 ·simp [h3]
 ·simp [h0, h1, h2, h3, h4]
end Go.Av
namespace Go.Av
open Go Go.Av Go.Hh
def vbF : Nat → Nat → List Nat
 | 0, u => [u]
 | f + 1, u => if u < 128 then [u] else (u % 128 + 128) :: vbF f (u / 128)
def zig (n : Int) : Nat := if 0 ≤ n then (2 * n).toNat else (-2 * n - 1).toNat
def unz (u : Nat) : Int := if u % 2 = 0 then ((u / 2 : Nat) : Int) else -1 - ((u / 2 : Nat) : Int)
def I64 (n : Int) : Prop := -9223372036854775808 ≤ n ∧ n < 9223372036854775808
theorem zig_lt {n : Int} (h : I64 n) : zig n < 18446744073709551616 := by
 unfold I64 at h
 unfold zig
 split <;> omega
theorem u64w (n : Int) : IntKind.u64.wrap n = n % 18446744073709551616 := by simp [IntKind.wrap, IntKind.bits, IntKind.signed]
theorem xor_u64 (a b : Nat) (ha : a < 18446744073709551616) (hb : b < 18446744073709551616) : xorI .u64 (a : Int) (b : Int) = ((a ^^^ b : Nat) : Int) := u64_xor_nat a b ha hb
theorem or_u64 (a b : Nat) (ha : a < 18446744073709551616) (hb : b < 18446744073709551616) : orI .u64 (a : Int) (b : Int) = ((a ||| b : Nat) : Int) := u64_or_nat a b ha hb
theorem and_u64 (a b : Nat) (ha : a < 18446744073709551616) (hb : b < 18446744073709551616) : andI .u64 (a : Int) (b : Int) = ((a &&& b : Nat) : Int) := u64_and_nat a b ha hb
theorem or_u8 (a b : Nat) (ha : a < 256) (hb : b < 256) : orI .u8 (a : Int) (b : Int) = ((a ||| b : Nat) : Int) := u8_or_nat a b ha hb
theorem and_u8 (a b : Nat) (ha : a < 256) (hb : b < 256) : andI .u8 (a : Int) (b : Int) = ((a &&& b : Nat) : Int) := u8_and_nat a b ha hb
theorem xor_ones (a : Nat) (ha : a < 18446744073709551616) : a ^^^ 18446744073709551615 = 18446744073709551615 - a := by
 have h : (BitVec.ofNat 64 a ^^^ BitVec.allOnes 64) = ~~~(BitVec.ofNat 64 a) := by rw [BitVec.xor_allOnes]
 have h2 := congrArg BitVec.toNat h
 rw [BitVec.toNat_not, BitVec.toNat_xor, BitVec.toNat_ofNat, BitVec.toNat_allOnes, Nat.mod_eq_of_lt ha] at h2
 exact h2
theorem wint_u {n : Int} (h : I64 n) : xorI .u64 (IntKind.u64.wrap (IntKind.u64.wrap n * 2)) (IntKind.u64.wrap (n.fdiv 9223372036854775808)) = ((zig n : Nat) : Int) := by
 obtain ⟨h1, h2⟩ := h
 rw [u64w, u64w, u64w, Int.fdiv_eq_ediv_of_nonneg _ (by decide)]
 by_cases hn : 0 ≤ n
 ·have e1 : n % 18446744073709551616 * 2 % 18446744073709551616 = ((zig n : Nat) : Int) := by unfold zig; rw [if_pos hn]; omega
  have e2 : n / 9223372036854775808 % 18446744073709551616 = ((0 : Nat) : Int) := by omega
  rw [e1, e2, xor_u64 _ _ (zig_lt ⟨h1, h2⟩) (by decide), Nat.xor_zero]
 ·have e1 : n % 18446744073709551616 * 2 % 18446744073709551616 = ((18446744073709551615 - zig n : Nat) : Int) := by unfold zig; rw [if_neg hn]; omega
  have e2 : n / 9223372036854775808 % 18446744073709551616 = ((18446744073709551615 : Nat) : Int) := by omega
  have hz := zig_lt ⟨h1, h2⟩
  rw [e1, e2, xor_u64 _ _ (by omega) (by decide), xor_ones _ (by omega)]
  omega
theorem rwint_u {n : Int} (h : I64 n) : (bif decide (n < 0) then xorI .u64 18446744073709551615 (IntKind.u64.wrap (IntKind.u64.wrap n * 2)) else IntKind.u64.wrap (IntKind.u64.wrap n * 2)) = ((zig n : Nat) : Int) := by
 obtain ⟨h1, h2⟩ := h
 rw [u64w, u64w]
 by_cases hn : 0 ≤ n
 ·have e0 : decide (n < 0) = false := decide_eq_false (by omega)
  rw [e0]
  show n % 18446744073709551616 * 2 % 18446744073709551616 = ((zig n : Nat) : Int)
  unfold zig; rw [if_pos hn]; omega
 ·have e0 : decide (n < 0) = true := decide_eq_true (by omega)
  have e1 : n % 18446744073709551616 * 2 % 18446744073709551616 = ((18446744073709551615 - zig n : Nat) : Int) := by unfold zig; rw [if_neg hn]; omega
  have hz := zig_lt ⟨h1, h2⟩
  rw [e0, cond_true, e1, show (18446744073709551615 : Int) = ((18446744073709551615 : Nat) : Int) from rfl, xor_u64 _ _ (by decide) (by omega), Nat.xor_comm, xor_ones _ (by omega)]
  omega
theorem or128 : ∀ a, a < 256 → a ||| 128 = a % 128 + 128 := by decide +kernel
theorem byte_up (u : Nat) : orI .u8 (IntKind.u8.wrap (u : Int)) 128 = ((u % 128 + 128 : Nat) : Int) := by
 have e : IntKind.u8.wrap (u : Int) = ((u % 256 : Nat) : Int) := by rw [IntKind.wrap_u8']; omega
 rw [e, show (128 : Int) = ((128 : Nat) : Int) from rfl, or_u8 _ _ (by omega) (by decide), or128 _ (by omega)]
 omega
theorem rbyte_up (u : Nat) : IntKind.u8.wrap (IntKind.u8.wrap ((u : Int).tmod 128) + 128) = ((u % 128 + 128 : Nat) : Int) := by
 rw [Int.tmod_eq_emod_of_nonneg (by omega), IntKind.wrap_u8', IntKind.wrap_u8']
 omega
theorem loopW_brk1 {R A : Type} {b : A → Step R A} {f : Nat} {x y : A} (h : b x = .brk y) : loopW b (f + 1) x = .inr y := by
 unfold loopW
 rw [h]
theorem loopW_nxt1 {R A : Type} {b : A → Step R A} {f : Nat} {x y : A} (h : b x = .nxt y) : loopW b (f + 1) x = loopW b f y := by
 conv => lhs; unfold loopW
 rw [h]
def vbs (u : Nat) : ByteArray := bytesOf ((vbF 9 u).map fun b : Nat => (b : Int))
theorem foldPush_list : ∀ (l : List Int) (s : ByteArray), (l.foldl (fun r n => r.push (UInt8.ofNat n.toNat)) s).data.toList = s.data.toList ++ l.map fun n => UInt8.ofNat n.toNat
 | [], s => by simp
 | n :: l, s => by
  rw [List.foldl_cons, foldPush_list l, ByteArray.data_push, Array.toList_push, List.map_cons, List.append_assoc, List.singleton_append]
theorem bytesOf_list (l : List Int) : (bytesOf l).data.toList = l.map fun n => UInt8.ofNat n.toNat := by
 unfold bytesOf
 rw [foldPush_list]
 rfl
theorem bytesOf_size (l : List Int) : (bytesOf l).size = l.length := by
 have h := congrArg List.length (bytesOf_list l)
 rw [List.length_map, Array.length_toList] at h
 exact h
theorem bytes_ext {a b : ByteArray} (h : a.data.toList = b.data.toList) : a = b := ByteArray.ext (Array.toList_inj.1 h)
def ub (l : List Nat) : List UInt8 := l.map UInt8.ofNat
theorem vbs_list (u : Nat) : (vbs u).data.toList = ub (vbF 9 u) := by
 unfold vbs ub
 rw [bytesOf_list, List.map_map]
 rfl
theorem vbF_len (f u : Nat) : (vbF f u).length ≤ f + 1 := by
 induction f generalizing u with
 | zero => exact Nat.le_refl _
 | succ f ih =>
  unfold vbF
  split
  ·simp
  ·have := ih (u / 128)
   simp only [List.length_cons]
   omega
theorem vbs_size (u : Nat) : (vbs u).size = (vbF 9 u).length := by
 unfold vbs
 rw [bytesOf_size, List.length_map]
theorem pow_split (k : Nat) : 128 ^ k = 2 ^ (7 * k) := by rw [Nat.pow_mul]
theorem or_step {k acc c : Nat} (hk : k ≤ 9) (hc : c < 256) (ha : acc < 128 ^ k) (hd : c % 128 * 128 ^ k < 18446744073709551616) :
    orI .u64 (acc : Int) (IntKind.u64.wrap ((IntKind.u64.wrap (andI .u8 (c : Int) 127)) * 2 ^ (min (IntKind.i64.wrap (7 * (k : Int))).toNat 64))) = ((acc + c % 128 * 128 ^ k : Nat) : Int) := by
  have e1 : andI .u8 (c : Int) 127 = ((c % 128 : Nat) : Int) := by
    rw [show (127 : Int) = ((127 : Nat) : Int) from rfl, and_u8 _ _ hc (by decide), nat_mask7]
  have e2 : min (IntKind.i64.wrap (7 * (k : Int))).toNat 64 = 7 * k := by
    rw [wrap64_of _ (by omega) (by omega)]
    omega
  have e3 : IntKind.u64.wrap ((c % 128 : Nat) : Int) = ((c % 128 : Nat) : Int) := by rw [u64w]; omega
  have e4 : (((c % 128 : Nat) : Int) * 2 ^ (7 * k)) = ((c % 128 * 128 ^ k : Nat) : Int) := by
    rw [pow_split]; push_cast; rfl
  have hp : 128 ^ k ≤ 128 ^ 9 := Nat.pow_le_pow_right (by decide) hk
  rw [e1, e2, e3, e4, u64w]
  have e5 : ((c % 128 * 128 ^ k : Nat) : Int) % 18446744073709551616 = ((c % 128 * 128 ^ k : Nat) : Int) := by omega
  rw [e5, or_u64 _ _ (by have : (128 : Nat) ^ 9 = 9223372036854775808 := by decide
                         omega) hd]
  rw [Nat.or_comm, nat_join (7 * k) _ _ (by rw [pow_split]; exact Nat.mul_mod_left _ _) (by rw [← pow_split]; exact ha), Nat.add_comm]
theorem u8_lt (e : UInt8) : e.toNat < 256 := e.toNat_lt
theorem var_b1 {s : ByteArray} {k : Nat} {e : UInt8} {acc : Nat} (he : s.data.toList[k]? = some e) (hk : k ≤ 9) (ha : acc < 128 ^ k) : varintM_B1 s k (acc : Int) =
    if (0 < k ∧ e.toNat = 0) ∨ (k = 9 ∧ 1 < e.toNat) then .ret (0, 0, 4) else if e.toNat < 128 then .ret (((acc + e.toNat % 128 * 128 ^ k : Nat) : Int), ((k + 1 : Nat) : Int), 0) else .nxt ((acc + e.toNat % 128 * 128 ^ k : Nat) : Int) := by
  have hu := u8_lt e
  unfold varintM_B1
  dsimp only
  rw [he]
  dsimp only
  rw [cond_eq_ite]
  by_cases h1 : (0 < k ∧ e.toNat = 0) ∨ (k = 9 ∧ 1 < e.toNat)
  · rw [if_pos h1, if_pos]
    simp only [Bool.or_eq_true, Bool.and_eq_true, decide_eq_true_eq, beq_iff_eq]
    omega
  · have hd : e.toNat % 128 * 128 ^ k < 18446744073709551616 := by
      rcases Nat.lt_or_ge k 9 with h9 | h9
      · have hp : 128 ^ k ≤ 128 ^ 8 := Nat.pow_le_pow_right (by decide) (by omega)
        have : e.toNat % 128 * 128 ^ k ≤ 127 * 128 ^ 8 := Nat.mul_le_mul (by omega) hp
        exact Nat.lt_of_le_of_lt this (by decide)
      · have hk9 : k = 9 := by omega
        subst hk9
        have : e.toNat % 128 * 128 ^ 9 ≤ 1 * 128 ^ 9 := Nat.mul_le_mul (by omega) (Nat.le_refl _)
        exact Nat.lt_of_le_of_lt this (by decide)
    rw [if_neg h1, if_neg (by
      simp only [Bool.or_eq_true, Bool.and_eq_true, decide_eq_true_eq, beq_iff_eq]
      omega), or_step hk hu ha hd, cond_eq_ite]
    by_cases h2 : e.toNat < 128
    · rw [if_pos h2, if_pos (by rw [decide_eq_true_eq]; omega)]
    · rw [if_neg h2, if_neg (by rw [decide_eq_true_eq]; omega)]
theorem var_dec {s : ByteArray} : ∀ (m k acc : Nat) (U N : Int), k + m = s.size → acc < 128 ^ k → k ≤ 9 → loopS (varintM_B1 s) k m (acc : Int) = .inl (U, N, 0) →
    ∃ (u : Nat) (t : List UInt8), U = ((acc + u * 128 ^ k : Nat) : Int) ∧ s.data.toList.drop k = ub (vbF (9 - k) u) ++ t ∧ N = ((k + (vbF (9 - k) u).length : Nat) : Int) ∧ (0 < k → 0 < u) ∧ acc + u * 128 ^ k < 18446744073709551616
  | 0, k, acc, U, N, _, _, _, h => by simp [loopS] at h
  | m + 1, k, acc, U, N, hs, ha, hk, h => by
    have hlt : k < s.data.toList.length := by
      have : s.data.toList.length = s.size := rfl
      omega
    obtain ⟨e, he⟩ : ∃ e, s.data.toList[k]? = some e := ⟨_, List.getElem?_eq_getElem hlt⟩
    have hdk : s.data.toList.drop k = e :: s.data.toList.drop (k + 1) := by
      rw [List.drop_eq_getElem_cons hlt]
      congr 1
      rw [List.getElem?_eq_getElem hlt] at he
      exact Option.some.inj he
    have hu8 := u8_lt e
    have hpk : 128 ^ (k + 1) = 128 * 128 ^ k := by rw [Nat.pow_succ, Nat.mul_comm]
    have hp9 : 128 ^ k ≤ 128 ^ 9 := Nat.pow_le_pow_right (by decide) hk
    have e9 : (128 : Nat) ^ 9 = 9223372036854775808 := by decide
    unfold loopS at h
    rw [var_b1 he hk ha] at h
    split at h
    · rename_i r hr
      split at hr
      · cases hr; cases h
      · rename_i hq
        split at hr
        · rename_i hc
          cases hr
          simp only [Sum.inl.injEq, Prod.mk.injEq] at h
          obtain ⟨rfl, rfl, _⟩ := h
          have hv : vbF (9 - k) e.toNat = [e.toNat] := by
            rcases Nat.lt_or_ge k 9 with h9 | h9
            · obtain ⟨f, hf⟩ : ∃ f, 9 - k = f + 1 := ⟨8 - k, by omega⟩
              rw [hf]
              unfold vbF
              rw [if_pos hc]
            · rw [show 9 - k = 0 by omega]; rfl
          have h64 : acc + e.toNat * 128 ^ k < 18446744073709551616 := by
            rcases Nat.lt_or_ge k 9 with h9 | h9
            · have hp : 128 ^ k ≤ 128 ^ 8 := Nat.pow_le_pow_right (by decide) (by omega)
              have h2 : e.toNat * 128 ^ k ≤ 127 * 128 ^ 8 := Nat.mul_le_mul (by omega) hp
              have e8 : 127 * (128 : Nat) ^ 8 = 9151314442816847872 := by decide
              omega
            · have hk9 : k = 9 := by omega
              subst hk9
              have : e.toNat * 128 ^ 9 ≤ 1 * 128 ^ 9 := Nat.mul_le_mul (by omega) (Nat.le_refl _)
              omega
          refine ⟨e.toNat, s.data.toList.drop (k + 1), by rw [Nat.mod_eq_of_lt hc], ?_, by rw [hv]; rfl, fun h0 => by omega, h64⟩
          rw [hv, hdk]
          simp [ub]
        · cases hr
    · rename_i a hr
      split at hr
      · cases hr
      · split at hr <;> cases hr
    · rename_i a hr
      split at hr
      · cases hr
      · rename_i hq
        split at hr
        · cases hr
        · rename_i hc
          cases hr
          have hk8 : k ≤ 8 := by
            rcases Nat.lt_or_ge k 9 with h9 | h9
            · omega
            · exact absurd (Or.inr ⟨by omega, by omega⟩) hq
          have ha2 : acc + e.toNat % 128 * 128 ^ k < 128 ^ (k + 1) := by
            have : e.toNat % 128 * 128 ^ k ≤ 127 * 128 ^ k := Nat.mul_le_mul (by omega) (Nat.le_refl _)
            omega
          obtain ⟨u, t, h1, h2, h3, h4, h5⟩ := var_dec m (k + 1) (acc + e.toNat % 128 * 128 ^ k) U N (by omega) ha2 (by omega) h
          have hu0 := h4 (by omega)
          have hsum : acc + e.toNat % 128 * 128 ^ k + u * 128 ^ (k + 1) = acc + (e.toNat % 128 + u * 128) * 128 ^ k := by
            rw [hpk, Nat.add_mul, Nat.add_assoc, Nat.mul_assoc]
          have hv : vbF (9 - k) (e.toNat % 128 + u * 128) = e.toNat :: vbF (9 - (k + 1)) u := by
            rw [show 9 - k = (9 - (k + 1)) + 1 by omega]
            conv => lhs; unfold vbF
            rw [if_neg (by omega)]
            congr 1
            · omega
            · congr 1
              omega
          refine ⟨e.toNat % 128 + u * 128, t, by rw [h1, hsum], ?_, ?_, fun _ => by omega, by rw [← hsum]; exact h5⟩
          · rw [hv, hdk, h2]
            simp [ub]
          · rw [hv, h3, List.length_cons]
            congr 1
            omega
theorem varint_dec {s : ByteArray} {U N : Int} (h : varintM s = (U, N, 0)) : ∃ (u : Nat) (t : ByteArray), U = (u : Int) ∧ s = vbs u ++ t ∧ N = (((vbs u).size : Nat) : Int) ∧ u < 18446744073709551616 := by
 unfold varintM at h
 split at h
 ·rename_i r hr
  subst h
  unfold varintM_L1 at hr
  obtain ⟨u, t, h1, h2, h3, _, h5⟩ := var_dec s.size 0 0 U N (by omega) (by decide) (by decide) hr
  refine ⟨u, ⟨t.toArray⟩, by rw [h1]; simp, bytes_ext ?_, by rw [h3, vbs_size]; simp, by omega⟩
  rw [ByteArray.data_append, Array.toList_append, vbs_list]
  simpa using h2
 ·simp at h
theorem xorI_comm (k : IntKind) (a b : Int) : xorI k a b = xorI k b a := by
 unfold xorI
 rw [BitVec.xor_comm]
theorem xor_i0 (a : Nat) (h : a < 9223372036854775808) : xorI .i64 (a : Int) 0 = (a : Int) := by
 unfold xorI
 have e : BitVec.ofInt IntKind.i64.bits (0 : Int) = 0#_ := rfl
 rw [e, BitVec.xor_zero]
 have : (BitVec.ofInt 64 (a : Int)).toNat = a := ofInt_u64 a (by omega)
 show IntKind.i64.wrap (((BitVec.ofInt 64 (a : Int)).toNat : Nat) : Int) = _
 rw [this, wrap64_of _ (by omega) (by omega)]
theorem xor_i1 (a : Nat) (h : a < 9223372036854775808) : xorI .i64 (a : Int) (-1) = -1 - (a : Int) := by
 rw [xorI_comm]
 exact i64_not a h
theorem unz_bits {u : Nat} (h : u < 18446744073709551616) : xorI .i64 (IntKind.i64.wrap ((u : Int).fdiv 2)) (IntKind.i64.wrap (0 - IntKind.i64.wrap (andI .u64 (u : Int) 1))) = unz u := by
 have e1 : IntKind.i64.wrap ((u : Int).fdiv 2) = ((u / 2 : Nat) : Int) := by
  rw [Int.fdiv_eq_ediv_of_nonneg _ (by decide), wrap64_of _ (by omega) (by omega)]
  omega
 have e2 : andI .u64 (u : Int) 1 = ((u % 2 : Nat) : Int) := by
  rw [show (1 : Int) = ((1 : Nat) : Int) from rfl, and_u64 _ _ h (by decide), nat_mask1]
 rw [e1, e2]
 unfold unz
 split
 ·rename_i h0
  rw [h0]
  exact xor_i0 _ (by omega)
 ·rename_i h0
  rw [show u % 2 = 1 by omega]
  exact xor_i1 _ (by omega)
theorem int_bad {r : Rd} (h : rdErrM r ≠ 0) : rdIntM r = (0, r) := by
 unfold rdIntM
 rw [show (rdErrM r != 0) = true by simpa using h]
 rfl
end Go.Av
namespace Go.Av
open Go Go.Av Go.Hh
theorem vcheck_size {v : Val} (h : vCheckM v = 0) : v.s.size ≤ 60 := by
 unfold vCheckM at h
 simp only [cond_eq_ite] at h
 repeat' split at h
 all_goals first
  | (cases h; done)
  | (rename_i hq _; simp at hq; omega)
  | (rename_i hq; simp at hq; omega)
theorem beqS_true {a b : ByteArray} : beqS a b = true ↔ a = b := by rw [beqS_eq]; simp
theorem vcheck_cases {v : Val} (h : vCheckM v = 0) : (v.kind = 0 ∧ v.n = 0 ∧ v.s = ⟨#[]⟩) ∨ ((v.kind = 1 ∨ v.kind = 2 ∨ v.kind = 3) ∧ v.s = ⟨#[]⟩ ∧ -1099511627776 ≤ v.n ∧ v.n ≤ 1099511627776) ∨ (v.kind = 4 ∧ v.n = 0 ∧ v.s.size ≤ 60) := by
 have hsz := vcheck_size h
 unfold vCheckM at h
 cases hA : (((v.kind == 0) || (v.kind == 4)) || ((v.kind == 1) || ((v.kind == 2) || (v.kind == 3)))) with
 | false => rw [hA] at h; cases h
 | true =>
  rw [hA] at h
  cases hB : (bif ((v.kind == 0) || (v.kind == 4)) then (v.n == 0) else (bif (v.kind == 1) then ((v.n == 0) || (v.n == 1)) else (bif (v.kind == 2) then inRangeM v.n else (decide (v.n ≥ 0) && decide (v.n ≤ 63))))) with
  | false => rw [hB] at h; cases h
  | true =>
   rw [hB] at h
   simp only [cond_true, Bool.not_true, cond_false] at h
   simp only [cond_eq_ite] at h
   split at h
   ·cases h
   ·split at h
    ·cases h
    ·rename_i h3
     have hs : v.kind ≠ 4 → v.s = ⟨#[]⟩ := fun hk => by
      simp only [Bool.and_eq_true, bne_iff_ne, ne_eq, not_and, Decidable.not_not, Bool.not_eq_true'] at h3
      cases hq : beqS v.s ⟨#[]⟩ with
      | true => exact beqS_true.1 hq
      | false => exact absurd (h3 hq) hk
     simp only [Bool.or_eq_true, beq_iff_eq] at hA
     rcases hA with (h0 | h4) | h1 | h2 | h3
     ·exact .inl ⟨h0, by simpa [h0] using hB, hs (by omega)⟩
     ·exact .inr (.inr ⟨h4, by simpa [h4] using hB, hsz⟩)
     ·refine .inr (.inl ⟨.inl h1, hs (by omega), ?_⟩)
      simp [h1] at hB
      omega
     ·refine .inr (.inl ⟨.inr (.inl h2), hs (by omega), ?_⟩)
      simp [h2, inRangeM] at hB
      omega
     ·refine .inr (.inl ⟨.inr (.inr h3), hs (by omega), ?_⟩)
      simp [h3] at hB
      omega
def tk (r : Rd) : Val × Rd :=
 if (rdIntM r).1 = 1 ∨ (rdIntM r).1 = 2 ∨ (rdIntM r).1 = 3 then (⟨(rdIntM r).1, (rdIntM (rdIntM r).2).1, ⟨#[]⟩⟩, (rdIntM (rdIntM r).2).2)
 else if (rdIntM r).1 = 4 then (⟨(rdIntM r).1, 0, (rdTextM (rdIntM r).2 60).1⟩, (rdTextM (rdIntM r).2 60).2) else (⟨(rdIntM r).1, 0, ⟨#[]⟩⟩, (rdIntM r).2)
theorem tk_v (r : Rd) : takeM_v1 r = (tk r).1 ∧ takeM_v2 r = (tk r).2 := by
 unfold takeM_v1 takeM_v2 tk
 simp only [cond_eq_ite, Bool.or_eq_true, beq_iff_eq]
 split
 ·exact ⟨rfl, rfl⟩
 ·split <;> exact ⟨rfl, rfl⟩
end Go.Av
namespace Go.Av
open Go Go.Av Go.Hh
theorem rrIntM_keep {r : RRd} (h : RdOk r) : RdOk (rrIntM r).2 := by
 unfold rrIntM
 cases (rrErrM r != 0) with
 | true => exact h
 | false =>
  simp only [cond_false]
  split
  ·rename_i q hq
   have key : ∀ (m k : Nat) (a : Int) (q : Int × RRd), k + m ≤ 10 → loopS (rrIntM_B1 r) k m a = .inl q → RdOk q.2 := by
    intro m
    induction m with
    | zero => intro k a r _ h; simp [loopS] at h
    | succ m ih =>
     intro k a q hk hl
     unfold loopS at hl
     split at hl
     ·rename_i q' hb
      simp only [Sum.inl.injEq] at hl
      subst hl
      obtain ⟨h1, h2, h3⟩ := h
      unfold rrIntM_B1 at hb
      simp only [cond_eq_ite, decide_eq_true_eq] at hb
      have w1 : IntKind.i64.wrap (r.at_ + (k : Int)) = r.at_ + (k : Int) := wrap64_of _ (by omega) (by omega)
      rw [w1] at hb
      split at hb
      ·cases hb; exact ⟨h1, h2, h3⟩
      ·rename_i hlt
       have w2 : IntKind.i64.wrap (r.at_ + (k : Int) + 1) = r.at_ + (k : Int) + 1 := wrap64_of _ (by omega) (by omega)
       rw [w2] at hb
       split at hb
       ·split at hb
        ·cases hb; exact ⟨h1, h2, h3⟩
        ·split at hb
         ·cases hb; exact ⟨by first | omega | (dsimp only; omega), by first | omega | (dsimp only; omega), h3⟩
         ·cases hb
       ·cases hb
     ·cases hl
     ·exact ih _ _ _ (by omega) hl
   exact key _ _ _ _ (by omega) hq
  ·exact h
theorem rrCountM_nn (r : RRd) (n : Int) : 0 ≤ (rrCountM r n).1 := by
 unfold rrCountM
 cases hA : (rrErrM ((rrIntM r).2) != 0) with
 | true => exact Int.le_refl _
 | false =>
  simp only [cond_false]
  cases hB : decide ((rrIntM r).1 < 0) with
  | true => exact Int.le_refl _
  | false =>
   have hB := of_decide_eq_false hB
   simp only [cond_false, cond_eq_ite]
   repeat' split
   all_goals first | exact Int.le_refl _ | omega | (dsimp only; omega)
theorem rrCountM_keep {r : RRd} {n : Int} (h : RdOk r) : RdOk (rrCountM r n).2 := by
 have h := rrIntM_keep h
 unfold rrCountM
 simp only [cond_eq_ite]
 repeat' split
 all_goals exact h
theorem rrTextM_keep {r : RRd} {n : Int} (h : RdOk r) : RdOk (rrTextM r n).2 := by
 have h := rrCountM_keep (n := n) h
 have hn := rrCountM_nn r n
 unfold rrTextM
 generalize hc : rrCountM r n = c at *
 obtain ⟨h1, h2, h3⟩ := h
 have w1 : IntKind.i64.wrap ((c.2.s.size : Int) - c.2.at_) = (c.2.s.size : Int) - c.2.at_ := wrap64_of _ (by omega) (by omega)
 rw [w1]
 simp only [cond_eq_ite, decide_eq_true_eq]
 repeat' split
 ·exact ⟨h1, h2, h3⟩
 ·exact ⟨h1, h2, h3⟩
 ·have w2 : IntKind.i64.wrap (c.2.at_ + c.1) = c.2.at_ + c.1 := wrap64_of _ (by omega) (by omega)
  rw [w2]
  exact ⟨by first | omega | (dsimp only; omega), by first | omega | (dsimp only; omega), h3⟩
theorem ext_list (s : ByteArray) (n : Nat) : (s.extract n s.size).data.toList = s.data.toList.drop n := by
 rw [ByteArray.data_extract, Array.toList_extract]
 have hs : s.size = s.data.toList.length := rfl
 rw [hs]
 simp [List.extract]
 rw [List.take_of_length_le (l := List.drop n s.data.toList) (by rw [List.length_drop]; exact Nat.le_refl _)]
theorem ext_ext (s : ByteArray) (n j : Nat) : (s.extract n s.size).extract j (s.extract n s.size).size = s.extract (n + j) s.size := bytes_ext (by
 rw [ext_list, ext_list, ext_list, List.drop_drop])
def RelR (r : Rd) (q : RRd) : Prop := RdOk q ∧ r = ⟨q.s.extract q.at_.toNat q.s.size, q.bad, q.made⟩
theorem rel_err {r : Rd} {q : RRd} (h : RelR r q) : rdErrM r = rrErrM q := by
 rw [h.2]
 rfl
theorem rr_b1 {q : RRd} (ho : RdOk q) {k acc : Nat} (hk : k ≤ 9) (ha : acc < 128 ^ k) {e : UInt8} (he : (q.s.extract q.at_.toNat q.s.size).data.toList[k]? = some e) : rrIntM_B1 q k (acc : Int) =
    if (0 < k ∧ e.toNat = 0) ∨ (k = 9 ∧ 1 < e.toNat) then .ret (0, ⟨q.s, q.at_, 4, q.made⟩) else if e.toNat < 128 then .ret (unz (acc + e.toNat % 128 * 128 ^ k), ⟨q.s, q.at_ + ((k + 1 : Nat) : Int), q.bad, q.made⟩) else .nxt ((acc + e.toNat % 128 * 128 ^ k : Nat) : Int) := by
  obtain ⟨h1, h2, h3⟩ := ho
  have hu := u8_lt e
  rw [ext_list, List.getElem?_drop] at he
  have hlt : q.at_.toNat + k < q.s.size := (List.getElem?_eq_some_iff.1 he).1
  have w1 : IntKind.i64.wrap (q.at_ + (k : Int)) = q.at_ + (k : Int) := wrap64_of _ (by omega) (by omega)
  have w2 : IntKind.i64.wrap (q.at_ + (k : Int) + 1) = q.at_ + ((k + 1 : Nat) : Int) := by rw [wrap64_of _ (by omega) (by omega)]; omega
  have w3 : (q.at_ + (k : Int)).toNat = q.at_.toNat + k := by omega
  unfold rrIntM_B1
  dsimp only
  rw [w1, decide_eq_false (show ¬ q.at_ + (k : Int) ≥ (q.s.size : Int) by omega), cond_false, w3, he]
  dsimp only
  rw [w2]
  have ec : (e.toNat : Int).tmod 128 = andI .u8 (e.toNat : Int) 127 := by
    rw [show (127 : Int) = ((127 : Nat) : Int) from rfl, and_u8 _ _ hu (by decide), nat_mask7, Int.tmod_eq_emod_of_nonneg (by omega)]
    omega
  rw [ec, cond_eq_ite]
  by_cases h1 : (0 < k ∧ e.toNat = 0) ∨ (k = 9 ∧ 1 < e.toNat)
  · rw [if_pos h1, if_pos]
    simp only [Bool.or_eq_true, Bool.and_eq_true, decide_eq_true_eq, beq_iff_eq]
    omega
  · have hd : e.toNat % 128 * 128 ^ k < 9223372036854775808 * 2 ∧ acc + e.toNat % 128 * 128 ^ k < 18446744073709551616 := by
      rcases Nat.lt_or_ge k 9 with h9 | h9
      · have hp : 128 ^ k ≤ 128 ^ 8 := Nat.pow_le_pow_right (by decide) (by omega)
        have : e.toNat % 128 * 128 ^ k ≤ 127 * 128 ^ 8 := Nat.mul_le_mul (by omega) hp
        have e8 : (128 : Nat) ^ 8 = 72057594037927936 := by decide
        omega
      · have hk9 : k = 9 := by omega
        subst hk9
        have : e.toNat % 128 * 128 ^ 9 ≤ 1 * 128 ^ 9 := Nat.mul_le_mul (by omega) (Nat.le_refl _)
        have e9 : (128 : Nat) ^ 9 = 9223372036854775808 := by decide
        omega
    rw [if_neg h1, if_neg (by
      simp only [Bool.or_eq_true, Bool.and_eq_true, decide_eq_true_eq, beq_iff_eq]
      omega), or_step hk hu ha (by omega), cond_eq_ite]
    by_cases h2 : e.toNat < 128
    · rw [if_pos h2, if_pos (by rw [decide_eq_true_eq]; omega)]
      generalize acc + e.toNat % 128 * 128 ^ k = Z at *
      have v1 : IntKind.i64.wrap ((Z : Int).fdiv 2) = ((Z / 2 : Nat) : Int) := by
        rw [Int.fdiv_eq_ediv_of_nonneg _ (by decide), wrap64_of _ (by omega) (by omega)]
        omega
      have v2 : (Z : Int).tmod 2 = ((Z % 2 : Nat) : Int) := by rw [Int.tmod_eq_emod_of_nonneg (by omega)]; omega
      rw [v1, v2]
      unfold unz
      by_cases h0 : Z % 2 = 0
      · rw [if_pos h0, h0]
        rfl
      · rw [if_neg h0, show Z % 2 = 1 by omega, wrap64_of _ (by omega) (by omega)]
        rfl
    · rw [if_neg h2, if_neg (by rw [decide_eq_true_eq]; omega)]
theorem rr_b0 {q : RRd} (ho : RdOk q) {k : Nat} {acc : Int} (hk : k ≤ 9) (he : q.s.size ≤ q.at_.toNat + k) : rrIntM_B1 q k acc = .ret (0, ⟨q.s, q.at_, 5, q.made⟩) := by
 obtain ⟨h1, h2, h3⟩ := ho
 have w1 : IntKind.i64.wrap (q.at_ + (k : Int)) = q.at_ + (k : Int) := wrap64_of _ (by omega) (by omega)
 unfold rrIntM_B1
 dsimp only
 rw [w1, decide_eq_true (show q.at_ + (k : Int) ≥ (q.s.size : Int) by omega)]
 rfl
theorem rr_loop {q : RRd} (ho : RdOk q) : ∀ (m k acc : Nat), k + m = 10 → k ≤ 9 → acc < 128 ^ k → k ≤ (q.s.extract q.at_.toNat q.s.size).size →
    loopS (rrIntM_B1 q) k m (acc : Int) = match loopS (varintM_B1 (q.s.extract q.at_.toNat q.s.size)) k ((q.s.extract q.at_.toNat q.s.size).size - k) (acc : Int) with
      | .inl (U, N, E) => if E = 0 then .inl (unz U.toNat, ⟨q.s, q.at_ + N, q.bad, q.made⟩) else .inl (0, ⟨q.s, q.at_, E, q.made⟩)
      | .inr _ => .inl (0, ⟨q.s, q.at_, 5, q.made⟩)
  | 0, k, acc, hm, hk, _, _ => by omega
  | m + 1, k, acc, hm, hk, ha, hsz => by
    have hss : (q.s.extract q.at_.toNat q.s.size).size = q.s.size - q.at_.toNat := by rw [ByteArray.size_extract]; omega
    rcases Nat.lt_or_ge k (q.s.extract q.at_.toNat q.s.size).size with hlt | hge
    · obtain ⟨e, he⟩ : ∃ e, (q.s.extract q.at_.toNat q.s.size).data.toList[k]? = some e := ⟨_, List.getElem?_eq_getElem (by exact hlt)⟩
      have hp : 0 < 128 ^ k := Nat.pow_pos (by decide)
      obtain ⟨j, hj⟩ : ∃ j, (q.s.extract q.at_.toNat q.s.size).size - k = j + 1 := ⟨(q.s.extract q.at_.toNat q.s.size).size - k - 1, by omega⟩
      rw [hj]
      unfold loopS
      rw [rr_b1 ho hk ha he, var_b1 he hk ha]
      by_cases h1 : (0 < k ∧ e.toNat = 0) ∨ (k = 9 ∧ 1 < e.toNat)
      · rw [if_pos h1, if_pos h1]
        rfl
      · rw [if_neg h1, if_neg h1]
        by_cases h2 : e.toNat < 128
        · rw [if_pos h2, if_pos h2]
          dsimp only
          rw [if_pos rfl, Int.toNat_natCast]
        · rw [if_neg h2, if_neg h2]
          dsimp only
          have hpk : 128 ^ (k + 1) = 128 * 128 ^ k := by rw [Nat.pow_succ, Nat.mul_comm]
          have ha2 : acc + e.toNat % 128 * 128 ^ k < 128 ^ (k + 1) := by
            have : e.toNat % 128 * 128 ^ k ≤ 127 * 128 ^ k := Nat.mul_le_mul (by omega) (Nat.le_refl _)
            omega
          have hk8 : k + 1 ≤ 9 := by
            rcases Nat.lt_or_ge k 9 with h9 | h9
            · omega
            · exact absurd (Or.inr ⟨by omega, by omega⟩) h1
          rw [rr_loop ho m (k + 1) _ (by omega) hk8 ha2 (by omega), show (q.s.extract q.at_.toNat q.s.size).size - (k + 1) = j by omega]
    · rw [show (q.s.extract q.at_.toNat q.s.size).size - k = 0 by omega]
      unfold loopS
      rw [rr_b0 ho hk (by omega)]
def Sim {α : Type} (R : Rd → α × Rd) (S : RRd → α × RRd) : Prop := ∀ r q, RelR r q → (R r).1 = (S q).1 ∧ RelR (R r).2 (S q).2
theorem rint_bad {q : RRd} (h : rrErrM q ≠ 0) : rrIntM q = (0, q) := by
 unfold rrIntM
 rw [show (rrErrM q != 0) = true by simpa using h]
 rfl
theorem sim_int : Sim rdIntM rrIntM := by
 intro r q h
 have hr := h
 by_cases h0 : rrErrM q = 0
 ·have hkeep := rrIntM_keep h.1
  have hp := h.1
  obtain ⟨ho, rfl⟩ := h
  unfold rrIntM rrIntM_L1 at hkeep ⊢
  unfold rdIntM
  rw [rel_err hr, h0]
  rw [h0] at hkeep
  simp only [bne_self_eq_false, cond_false] at hkeep ⊢
  have hl := rr_loop ho 10 0 0 (by omega) (by omega) (by decide) (by omega)
  rw [Nat.sub_zero] at hl
  rw [show ((0 : Nat) : Int) = 0 from rfl] at hl
  rw [hl] at hkeep ⊢
  generalize hs : q.s.extract q.at_.toNat q.s.size = rest at *
  unfold varintM varintM_L1
  cases hv : loopS (varintM_B1 rest) 0 rest.size 0 with
  | inr a =>
   rw [hv] at hkeep
   dsimp only at hkeep ⊢
   exact ⟨rfl, hkeep, by rw [← hs]; rfl⟩
  | inl p =>
   obtain ⟨U, N, E⟩ := p
   rw [hv] at hkeep
   dsimp only at hkeep ⊢
   by_cases hE : E = 0
   ·subst hE
    have hvar : varintM rest = (U, N, 0) := by
     unfold varintM varintM_L1
     rw [hv]
    obtain ⟨u, t, hU, ht, hN, hu⟩ := varint_dec hvar
    subst hU hN
    rw [if_pos rfl] at hkeep ⊢
    dsimp only at hkeep ⊢
    have hrest : rest.extract ((((vbs u).size : Nat) : Int)).toNat rest.size = q.s.extract (q.at_ + (((vbs u).size : Nat) : Int)).toNat q.s.size := by
     rw [← hs, ext_ext, Int.toNat_natCast]
     have := hp.1
     congr 1
     omega
    refine ⟨?_, hkeep, ?_⟩
    ·show xorI .i64 _ _ = _
     rw [unz_bits hu, Int.toNat_natCast]
    ·show (⟨rest.extract ((((vbs u).size : Nat) : Int)).toNat rest.size, q.bad, q.made⟩ : Rd) = _
     rw [hrest]
   ·rw [if_neg hE] at hkeep ⊢
    rw [show (E != 0) = true by simpa using hE]
    exact ⟨rfl, hkeep, by rw [← hs]; rfl⟩
 ·rw [rint_bad h0, int_bad (by rw [rel_err h]; exact h0)]
  exact ⟨rfl, h⟩
theorem rel_size {r : Rd} {q : RRd} (h : RelR r q) : (r.rest.size : Int) = (q.s.size : Int) - q.at_ := by
 obtain ⟨⟨h1, h2, h3⟩, rfl⟩ := h
 show (((q.s.extract q.at_.toNat q.s.size).size : Nat) : Int) = _
 rw [ByteArray.size_extract]
 omega
theorem sim_count (n : Int) : Sim (fun r => rdCountM r n) (fun q => rrCountM q n) := by
 intro r q h
 obtain ⟨h1, h2⟩ := sim_int r q h
 show (rdCountM r n).1 = (rrCountM q n).1 ∧ RelR (rdCountM r n).2 (rrCountM q n).2
 unfold rdCountM rrCountM
 rw [rel_err h2, h1]
 have hm : (if 0 > n then (0 : Int) else n) = bif decide (n < 0) then 0 else n := by
  rw [cond_eq_ite]
  by_cases hn : n < 0
  ·rw [if_pos hn, if_pos (decide_eq_true hn)]
  ·rw [if_neg hn, if_neg (by simpa using hn)]
 rw [hm]
 have hk : ∀ e : Int, RelR ⟨(rdIntM r).2.rest, e, (rdIntM r).2.made⟩ ⟨(rrIntM q).2.s, (rrIntM q).2.at_, e, (rrIntM q).2.made⟩ := fun e => by
  obtain ⟨ho, hr⟩ := h2
  refine ⟨ho, ?_⟩
  rw [hr]
 cases (rrErrM (rrIntM q).2 != 0) with
 | true => exact ⟨rfl, h2⟩
 | false =>
  simp only [cond_false]
  cases decide ((rrIntM q).1 < 0) with
  | true => exact ⟨rfl, hk 4⟩
  | false =>
   simp only [cond_false]
   cases decide ((rrIntM q).1 > bif decide (n < 0) then 0 else n) with
   | true => exact ⟨rfl, hk 3⟩
   | false => exact ⟨rfl, h2⟩
theorem ext_sub (s : ByteArray) (n j : Nat) (h : n + j ≤ s.size) : (s.extract n s.size).extract 0 j = s.extract n (n + j) := bytes_ext (by
 rw [ByteArray.data_extract, Array.toList_extract, ext_list, ByteArray.data_extract, Array.toList_extract]
 have hs : s.size = s.data.toList.length := rfl
 simp only [List.extract, List.drop_zero, Nat.sub_zero]
 rw [show n + j - n = j by omega])
theorem sim_text (n : Int) : Sim (fun r => rdTextM r n) (fun q => rrTextM q n) := by
 intro r q h
 obtain ⟨h1, h2⟩ := sim_count n r q h
 have hnn := rrCountM_nn q n
 show (rdTextM r n).1 = (rrTextM q n).1 ∧ RelR (rdTextM r n).2 (rrTextM q n).2
 have hkeep := rrTextM_keep (n := n) h.1
 unfold rrTextM at hkeep ⊢
 unfold rdTextM
 dsimp only at h1 h2
 rw [rel_err h2, h1]
 have hsz := rel_size h2
 obtain ⟨ho, hr⟩ := h2
 obtain ⟨o1, o2, o3⟩ := ho
 generalize rrCountM q n = c at *
 rw [hr] at hsz ⊢
 generalize hd : rdCountM r n = d at *
 have w1 : IntKind.i64.wrap ((c.2.s.size : Int) - c.2.at_) = (c.2.s.size : Int) - c.2.at_ := wrap64_of _ (by omega) (by omega)
 rw [w1] at hkeep ⊢
 dsimp only at hsz ⊢
 rw [hsz]
 cases hE : (rrErrM c.2 != 0) with
 | true =>
  exact ⟨rfl, ⟨o1, o2, o3⟩, rfl⟩
 | false =>
  rw [hE] at hkeep
  simp only [cond_false] at hkeep ⊢
  by_cases hg : c.1 > (c.2.s.size : Int) - c.2.at_
  ·rw [decide_eq_true hg]
   exact ⟨rfl, ⟨o1, o2, o3⟩, rfl⟩
  ·rw [decide_eq_false hg] at hkeep ⊢
   simp only [cond_false] at hkeep ⊢
   refine ⟨?_, hkeep, ?_⟩
   ·rw [ext_sub _ _ _ (by omega)]
    congr 1
    omega
   ·have w2 : IntKind.i64.wrap (c.2.at_ + c.1) = c.2.at_ + c.1 := wrap64_of _ (by omega) (by omega)
    rw [w2, ext_ext]
    have : c.2.at_.toNat + c.1.toNat = (c.2.at_ + c.1).toNat := by omega
    rw [this]
theorem sim_fail {r : Rd} {q : RRd} (e : Int) (h : RelR r q) : RelR (rdFailM r e) (rrFailM q e) := by
 unfold rdFailM rrFailM
 rw [rel_err h]
 cases (rrErrM q == 0) with
 | true => exact ⟨h.1, by rw [h.2]; rfl⟩
 | false => exact h
theorem sim_take : Sim takeM rtakeM := by
 intro r q h
 obtain ⟨h1, h2⟩ := sim_int r q h
 obtain ⟨a1, a2⟩ := sim_text 60 _ _ h2
 obtain ⟨b1, b2⟩ := sim_int _ _ h2
 dsimp only at a1 a2
 have hv : (tk r).1 = rtakeM_v3 q ∧ RelR (tk r).2 (rtakeM_v4 q) := by
  have hk1 : (rtakeM_v1 q).kind = (rrIntM q).1 := by
   unfold rtakeM_v1
   cases ((rrIntM q).1 == 4) <;> rfl
  unfold tk rtakeM_v3 rtakeM_v4
  rw [hk1, h1]
  by_cases h4 : (rrIntM q).1 = 4
  ·rw [if_neg (by omega), if_pos h4, show (decide ((rrIntM q).1 ≥ 1) && decide ((rrIntM q).1 ≤ 3)) = false by rw [h4]; rfl]
   simp only [cond_false]
   unfold rtakeM_v1 rtakeM_v2
   rw [show ((rrIntM q).1 == 4) = true by simpa using h4]
   simp only [cond_true]
   exact ⟨by rw [a1], a2⟩
  ·have e1 : rtakeM_v1 q = ⟨(rrIntM q).1, 0, ⟨#[]⟩⟩ := by
    unfold rtakeM_v1
    rw [show ((rrIntM q).1 == 4) = false by simpa using h4]
    rfl
   have e2 : rtakeM_v2 q = (rrIntM q).2 := by
    unfold rtakeM_v2
    rw [show ((rrIntM q).1 == 4) = false by simpa using h4]
    rfl
   rw [e1, e2]
   by_cases h3 : (rrIntM q).1 = 1 ∨ (rrIntM q).1 = 2 ∨ (rrIntM q).1 = 3
   ·rw [if_pos h3, show (decide ((rrIntM q).1 ≥ 1) && decide ((rrIntM q).1 ≤ 3)) = true by simp; omega]
    simp only [cond_true]
    exact ⟨by rw [b1], b2⟩
   ·rw [if_neg h3, if_neg h4, show (decide ((rrIntM q).1 ≥ 1) && decide ((rrIntM q).1 ≤ 3)) = false by simp; omega]
    exact ⟨rfl, h2⟩
 obtain ⟨v1, v2⟩ := hv
 have h5 : RelR (takeM_v3 r) (rtakeM_v5 q) := by
  unfold takeM_v3 rtakeM_v5
  rw [(tk_v r).1, (tk_v r).2, v1, vcheck_eq]
  by_cases hE : rrErrM (rtakeM_v4 q) = 0
  ·rw [show (rrErrM (rtakeM_v4 q) == 0) = true by simpa using hE]
   simp only [Bool.true_and]
   cases (rvCheckM (rtakeM_v3 q) != 0) with
   | true => exact sim_fail 4 v2
   | false => exact v2
  ·rw [show (rrErrM (rtakeM_v4 q) == 0) = false by simpa using hE]
   simp only [Bool.false_and, cond_false]
   cases (rvCheckM (rtakeM_v3 q) != 0) with
   | true =>
    simp only [cond_true]
    unfold rdFailM
    rw [rel_err v2, show (rrErrM (rtakeM_v4 q) == 0) = false by simpa using hE]
    exact v2
   | false => exact v2
 unfold takeM rtakeM
 rw [rel_err h5, (tk_v r).1, v1]
 cases (rrErrM (rtakeM_v5 q) != 0) with
 | true => exact ⟨rfl, h5⟩
 | false => exact ⟨rfl, h5⟩
theorem sim_end {r : Rd} {q : RRd} (h : RelR r q) : rdEndM r = rrEndM q := by
 have hs := rel_size h
 unfold rdEndM rdLeftM rrEndM
 rw [rel_err h]
 cases hE : (rrErrM q != 0) with
 | true => rfl
 | false =>
  have h0 : rrErrM q = 0 := bz hE
  simp only [cond_false]
  rw [hs, h0]
  by_cases hl : q.at_ < (q.s.size : Int)
  ·rw [decide_eq_true hl, decide_eq_true (by omega)]
  ·rw [decide_eq_false hl, decide_eq_false (by omega)]
end Go.Av
namespace Go.Av
open Go Go.Hh
theorem arShr7 (u : Nat) : arI .shr .u64 (u : Int) 7 = ((u / 128 : Nat) : Int) := by
 show (u : Int).fdiv (2 ^ (min (7 : Int).toNat 64)) = _
 rw [show (2 : Int) ^ (min (7 : Int).toNat 64) = 128 from rfl, Int.fdiv_eq_ediv_of_nonneg _ (by decide)]
 omega
theorem arQuo128 {u : Nat} (h : u < 18446744073709551616) : arI .quo .u64 (u : Int) 128 = ((u / 128 : Nat) : Int) := by
 show IntKind.u64.wrap ((u : Int).tdiv 128) = _
 rw [Int.tdiv_eq_ediv_of_nonneg (by omega), u64w]
 omega
def wB (R : Type) (c : Int × List Int) : Step R (Int × List Int) :=
 bif decide (c.1 ≥ 128) then .nxt (arI .shr .u64 c.1 7, List.append c.2 [arI .or .u8 (IntKind.wrap .u8 c.1) 128]) else .brk (c.1, c.2)
def rwB (R : Type) (c : Int × List Int) : Step R (Int × List Int) :=
 bif decide (c.1 ≥ 128) then .nxt (arI .quo .u64 c.1 128, List.append c.2 [IntKind.wrap .u8 (IntKind.wrap .u8 (arI .rem .u64 c.1 128) + 128)]) else .brk (c.1, c.2)
theorem wB_lt (R : Type) {u : Nat} (acc : List Int) (h : u < 128) : wB R ((u : Int), acc) = .brk ((u : Int), acc) := by
 unfold wB
 rw [show decide ((u : Int) ≥ 128) = false from decide_eq_false (by omega)]
 rfl
theorem wB_ge (R : Type) {u : Nat} (acc : List Int) (h : ¬ u < 128) : wB R ((u : Int), acc) = .nxt (((u / 128 : Nat) : Int), acc ++ [((u % 128 + 128 : Nat) : Int)]) := by
 unfold wB
 rw [show decide ((u : Int) ≥ 128) = true from decide_eq_true (by omega), cond_true, arShr7]
 show Step.nxt (_, acc ++ [orI .u8 (IntKind.u8.wrap (u : Int)) 128]) = _
 rw [byte_up]
theorem rwB_lt (R : Type) {u : Nat} (acc : List Int) (h : u < 128) : rwB R ((u : Int), acc) = .brk ((u : Int), acc) := by
 unfold rwB
 rw [show decide ((u : Int) ≥ 128) = false from decide_eq_false (by omega)]
 rfl
theorem rwB_ge (R : Type) {u : Nat} (acc : List Int) (h : ¬ u < 128) (h2 : u < 18446744073709551616) : rwB R ((u : Int), acc) = .nxt (((u / 128 : Nat) : Int), acc ++ [((u % 128 + 128 : Nat) : Int)]) := by
 unfold rwB
 rw [show decide ((u : Int) ≥ 128) = true from decide_eq_true (by omega), cond_true, arQuo128 h2]
 show Step.nxt (_, acc ++ [IntKind.u8.wrap (IntKind.u8.wrap ((u : Int).tmod 128) + 128)]) = _
 rw [rbyte_up]
theorem w_loop {R : Type} {b : Int × List Int → Step R (Int × List Int)} (hl : ∀ (u : Nat) acc, u < 128 → b ((u : Int), acc) = .brk ((u : Int), acc))
    (hg : ∀ (u : Nat) acc, ¬ u < 128 → u < 18446744073709551616 → b ((u : Int), acc) = .nxt (((u / 128 : Nat) : Int), acc ++ [((u % 128 + 128 : Nat) : Int)])) :
    ∀ (f u F : Nat) (acc : List Int), u < 128 * 128 ^ f → u < 18446744073709551616 → f < F → ∃ (x : Nat) (l : List Int), loopW b F ((u : Int), acc) = .inr ((x : Int), acc ++ l) ∧ (vbF f u).map (fun b : Nat => (b : Int)) = l ++ [(x : Int)] ∧ x < 128
  | f, u, 0, acc, h, _, hF => absurd hF (Nat.not_lt_zero _)
  | f, u, F + 1, acc, h, h64, hF => by
    by_cases hu : u < 128
    · refine ⟨u, [], by rw [loopW_brk1 (hl u acc hu), List.append_nil], ?_, hu⟩
      cases f with
      | zero => rfl
      | succ f => unfold vbF; rw [if_pos hu]; rfl
    · cases f with
      | zero => exact absurd h (by simpa using hu)
      | succ f =>
        have h2 : u / 128 < 128 * 128 ^ f := by
          rw [Nat.pow_succ] at h
          omega
        obtain ⟨x, l, e1, e2, e3⟩ := w_loop hl hg f (u / 128) F (acc ++ [((u % 128 + 128 : Nat) : Int)]) h2 (by omega) (by omega)
        refine ⟨x, ((u % 128 + 128 : Nat) : Int) :: l, ?_, ?_, e3⟩
        · rw [loopW_nxt1 (hg u acc hu h64), e1, List.append_assoc, List.singleton_append]
        · unfold vbF
          rw [if_neg hu, List.map_cons, e2, List.cons_append]
theorem w_end {R : Type} {b : Int × List Int → Step R (Int × List Int)} (hl : ∀ (u : Nat) acc, u < 128 → b ((u : Int), acc) = .brk ((u : Int), acc))
    (hg : ∀ (u : Nat) acc, ¬ u < 128 → u < 18446744073709551616 → b ((u : Int), acc) = .nxt (((u / 128 : Nat) : Int), acc ++ [((u % 128 + 128 : Nat) : Int)])) {u : Nat} (h64 : u < 18446744073709551616) :
    ∃ (x : Nat) (l : List Int), loopW b fuelW ((u : Int), []) = .inr ((x : Int), l) ∧ bytesOf (List.append l [IntKind.wrap .u8 (x : Int)]) = vbs u := by
  obtain ⟨x, l, e1, e2, e3⟩ := w_loop hl hg 9 u fuelW [] (Nat.lt_of_lt_of_le h64 (by decide)) h64 (by decide)
  refine ⟨x, l, e1, ?_⟩
  unfold vbs
  rw [e2, IntKind.wrap_u8', show (x : Int) % 256 = (x : Int) by omega]
  rfl
theorem wint_arg {n : Int} (h : I64 n) : arI .xor .u64 (arI .shl .u64 (IntKind.wrap .u64 n) 1) (IntKind.wrap .u64 (arI .shr .i64 n 63)) = ((zig n : Nat) : Int) := by
 have : arI .shr .i64 n 63 = n.fdiv 9223372036854775808 := rfl
 rw [this]
 exact wint_u h
theorem m93_eq {n : Int} (h : I64 n) : m93 n = vbs (zig n) := by
 obtain ⟨x, l, e1, e2⟩ := w_end (R := ByteArray) (b := wB ByteArray) (fun u acc => wB_lt _ acc) (fun u acc h _ => wB_ge _ acc h) (zig_lt h)
 unfold m93
 rw [wint_arg h]
 show Sum.elim _ _ (loopW (wB ByteArray) fuelW (((zig n : Nat) : Int), [])) = _
 rw [e1]
 exact e2
theorem m96_eq {n : Int} (h : I64 n) : m96 n = vbs (zig n) := by
 obtain ⟨x, l, e1, e2⟩ := w_end (R := ByteArray) (b := rwB ByteArray) (fun u acc => rwB_lt _ acc) (fun u acc h h2 => rwB_ge _ acc h h2) (zig_lt h)
 have ha := rwint_u h
 unfold m96
 dsimp only
 have key : ∀ v : Int, v = ((zig n : Nat) : Int) → Sum.elim (fun r => r) (fun c0 : Int × List Int => bytesOf (List.append c0.2 [IntKind.wrap .u8 c0.1])) (loopW (rwB ByteArray) fuelW (v, [])) = vbs (zig n) := by
  rintro v rfl
  rw [e1]
  exact e2
 cases hd : decide (n < 0) with
 | true =>
  rw [hd, cond_true] at ha
  exact key _ ha
 | false =>
  rw [hd, cond_false] at ha
  exact key _ ha
theorem vbs_sz {u : Nat} : (vbs u).size ≤ 10 := by rw [vbs_size]; exact vbF_len 9 u
def wI (d : Int × List Int) : Prop := ∃ (u f : Nat), d.1 = (u : Int) ∧ u < 18446744073709551616 ∧ u < 128 * 128 ^ f ∧ d.2.length + f ≤ 9
theorem wI0 {u : Nat} (h : u < 18446744073709551616) : wI ((u : Int), []) := ⟨u, 9, rfl, h, Nat.lt_of_lt_of_le h (by decide), Nat.le_refl _⟩
theorem wI1 {u : Nat} {acc : List Int} (h : wI ((u : Int), acc)) (hu : ¬ u < 128) : wI (((u / 128 : Nat) : Int), acc ++ [((u % 128 + 128 : Nat) : Int)]) := by
 obtain ⟨v, f, h1, h2, h3, h4⟩ := h
 have : u = v := by have : (u : Int) = v := h1; omega
 subst this
 cases f with
 | zero => exact absurd h3 (by simpa using hu)
 | succ f =>
  have h4 : acc.length + (f + 1) ≤ 9 := h4
  exact ⟨u / 128, f, rfl, by omega, by rw [Nat.pow_succ] at h3; omega, by show (acc ++ [_]).length + f ≤ 9; rw [List.length_append]; simp; omega⟩
theorem wI_len {d : Int × List Int} (h : wI d) : d.2.length ≤ 9 := by
 obtain ⟨_, f, _, _, _, h4⟩ := h
 omega
theorem wI_u {d : Int × List Int} (h : wI d) : ∃ (u : Nat) (acc : List Int), d = ((u : Int), acc) ∧ u < 18446744073709551616 := by
 obtain ⟨u, _, h1, h2, _⟩ := h
 exact ⟨u, d.2, by rw [← h1], h2⟩
theorem p93_ok {n : Int} (h : I64 n) : p93 n := by
 unfold p93
 rw [wint_arg h]
 refine ⟨wI, fun d => d.1.toNat, wI0 (zig_lt h), ?_, fun d hd => ⟨fun hc => ?_, fun hc => ?_⟩⟩
 ·have := zig_lt h
  show (((zig n : Nat) : Int)).toNat < fuelW
  unfold fuelW
  omega
 ·obtain ⟨u, acc, rfl, hu⟩ := wI_u hd
  have hl : acc.length ≤ 9 := wI_len hd
  have hc : ¬ u < 128 := by have := of_decide_eq_true hc; simp only at this; omega
  have hb := wB_ge Unit acc hc
  unfold wB at hb
  rw [show decide ((u : Int) ≥ 128) = true from decide_eq_true (by omega), cond_true] at hb
  have e1 := congrArg (fun s => match s with | Step.nxt x => x.1 | _ => 0) hb
  have e2 := congrArg (fun s => match s with | Step.nxt x => x.2 | _ => []) hb
  simp only at e1 e2
  refine ⟨⟨?_, ?_⟩, ?_, ?_⟩
  ·show acc.length + 1 ≤ maxLen
   unfold maxLen
   omega
  ·show (acc.length + 1) * 1 ≤ _
   omega
  ·show wI (arI .shr .u64 (u : Int) 7, List.append acc [arI .or .u8 (IntKind.wrap .u8 (u : Int)) 128])
   rw [e1, e2]
   exact wI1 hd hc
  ·show (arI .shr .u64 (u : Int) 7).toNat < (u : Int).toNat
   rw [e1]
   omega
 ·have hl := wI_len hd
  refine ⟨?_, ?_⟩
  ·show d.2.length + 1 ≤ maxLen
   unfold maxLen
   omega
  ·show (d.2.length + 1) * 1 ≤ _
   omega
theorem p96_ok {n : Int} (h : I64 n) : p96 n := by
  have key : ∀ v : Int, v = ((zig n : Nat) : Int) → ∃ (I0 : (Int × (List Int)) → Prop) (u0 : (Int × (List Int)) → Nat), I0 (v, []) ∧ u0 (v, []) < fuelW ∧ ∀ (d0 : Int × (List Int)), I0 d0 → (
   ((decide (d0.1 ≥ 128)) = true → (
    let v11 : List Int := ([(IntKind.wrap .u8 ((IntKind.wrap .u8 (arI .rem .u64 d0.1 (128 : Int))) + (128 : Int)))] : List Int)
    (List.length d0.2 + List.length v11 ≤ maxLen ∧ (List.length d0.2 + List.length v11) * 1 ≤ 140737488355328) ∧
    I0 ((arI .quo .u64 d0.1 (128 : Int)), (List.append d0.2 v11)) ∧ u0 ((arI .quo .u64 d0.1 (128 : Int)), (List.append d0.2 v11)) < u0 d0)) ∧ ((decide (d0.1 ≥ 128)) = false → (
    List.length d0.2 + List.length ([IntKind.wrap .u8 d0.1] : List Int) ≤ maxLen ∧ (List.length d0.2 + List.length ([IntKind.wrap .u8 d0.1] : List Int)) * 1 ≤ 140737488355328))) := by
    rintro v rfl
    refine ⟨wI, fun d => d.1.toNat, wI0 (zig_lt h), ?_, fun d hd => ⟨fun hc => ?_, fun hc => ?_⟩⟩
    · have := zig_lt h
      show (((zig n : Nat) : Int)).toNat < fuelW
      unfold fuelW
      omega
    · obtain ⟨u, acc, rfl, hu⟩ := wI_u hd
      have hl : acc.length ≤ 9 := wI_len hd
      have hc : ¬ u < 128 := by have := of_decide_eq_true hc; simp only at this; omega
      have hb := rwB_ge Unit acc hc hu
      unfold rwB at hb
      rw [show decide ((u : Int) ≥ 128) = true from decide_eq_true (by omega), cond_true] at hb
      have e1 := congrArg (fun s => match s with | Step.nxt x => x.1 | _ => 0) hb
      have e2 := congrArg (fun s => match s with | Step.nxt x => x.2 | _ => []) hb
      simp only at e1 e2
      refine ⟨⟨?_, ?_⟩, ?_, ?_⟩
      · show acc.length + 1 ≤ maxLen
        unfold maxLen
        omega
      · show (acc.length + 1) * 1 ≤ _
        omega
      · show wI (arI .quo .u64 (u : Int) 128, List.append acc [IntKind.wrap .u8 (IntKind.wrap .u8 (arI .rem .u64 (u : Int) 128) + 128)])
        rw [e1, e2]
        exact wI1 hd hc
      · show (arI .quo .u64 (u : Int) 128).toNat < (u : Int).toNat
        rw [e1]
        omega
    · have hl := wI_len hd
      refine ⟨?_, ?_⟩
      · show d.2.length + 1 ≤ maxLen
        unfold maxLen
        omega
      · show (d.2.length + 1) * 1 ≤ _
        omega
  have ha := rwint_u h
  unfold p96
  refine ⟨fun hd => ?_, fun hd => ?_⟩
  · rw [hd, cond_true] at ha
    exact key _ ha
  · rw [hd, cond_false] at ha
    exact key _ ha
def Sz (s : ByteArray) : Prop := s.size ≤ 140737488351232
theorem Sz.i64 {s : ByteArray} (h : Sz s) : I64 (s.size : Int) := by unfold Sz at h; exact ⟨by omega, by omega⟩
theorem m94_eq {s : ByteArray} (h : Sz s) : m94 s = vbs (zig s.size) ++ s := by
 unfold m94
 rw [m93_eq h.i64]
 rfl
theorem m97_eq {s : ByteArray} (h : Sz s) : m97 s = vbs (zig s.size) ++ s := by
 unfold m97
 rw [m96_eq h.i64]
 rfl
theorem app_size' (a b : ByteArray) : (a ++ b).size = a.size + b.size := ByteArray.size_append
theorem m94_size {s : ByteArray} (h : Sz s) : (m94 s).size ≤ 140737488351242 := by
 rw [m94_eq h, ByteArray.size_append]
 have := vbs_sz (u := zig s.size)
 unfold Sz at h
 omega
theorem p94_ok {s : ByteArray} (h : Sz s) : p94 s := by
 refine ⟨p93_ok h.i64, ?_⟩
 have := vbs_sz (u := zig s.size)
 rw [m93_eq h.i64]
 unfold Sz at h
 omega
theorem p97_ok {s : ByteArray} (h : Sz s) : p97 s := by
 refine ⟨p96_ok h.i64, ?_⟩
 have := vbs_sz (u := zig s.size)
 rw [m96_eq h.i64]
 unfold Sz at h
 omega
theorem m97_m94 {s : ByteArray} (h : Sz s) : m97 s = m94 s := by rw [m97_eq h, m94_eq h]
theorem m96_m93 {n : Int} (h : I64 n) : m96 n = m93 n := by rw [m96_eq h, m93_eq h]
theorem m93_size {n : Int} (h : I64 n) : (m93 n).size ≤ 10 := by rw [m93_eq h]; exact vbs_sz
end Go.Av
namespace Go.Av
open Go Go.Hh
theorem rdCountM_nn (r : Rd) (n : Int) : 0 ≤ (rdCountM r n).1 := by
 unfold rdCountM
 cases hA : ((rdErrM ((rdIntM r).2)) != 0) with
 | true => exact Int.le_refl _
 | false =>
  simp only [cond_false]
  cases hB : decide ((rdIntM r).1 < 0) with
  | true => exact Int.le_refl _
  | false =>
   simp only [cond_false]
   have hB := of_decide_eq_false hB
   cases hC : decide ((rdIntM r).1 > (if 0 > n then 0 else n)) with
   | true => exact Int.le_refl _
   | false =>
    simp only [cond_false]
    omega
theorem m119_eq (v : Val) : m119 v = vCheckM v := by
 unfold m119 vCheckM cmS
 dsimp only
 have : m193 v.n = inRangeM v.n := rfl
 rw [this]
 cases (v.kind == 0) <;> cases (v.kind == 4) <;> cases (v.kind == 1) <;> cases (v.kind == 2) <;> cases (v.kind == 3) <;> rfl
theorem m50_eq (v : Val) : m50 v = rvCheckM v := by
 unfold m50 rvCheckM cmS
 dsimp only
 cases (v.kind == 0) <;> cases (v.kind == 4) <;> cases (v.kind == 1) <;> cases (v.kind == 2) <;> cases (v.kind == 3) <;> rfl
theorem m119_m50 (v : Val) : m50 v = m119 v := by rw [m50_eq, m119_eq, vcheck_eq]
theorem m151_eq (r : Rd) : m151 r = (r, rdErrM r) := by
 unfold m151 rdErrM
 cases r.made <;> rfl
theorem m156_eq (r : Rd2) : m156 r = (r, rrErrM r) := by
 unfold m156 rrErrM
 cases r.made <;> rfl
def Ln (s : ByteArray) : Prop := s.size ≤ 4611686018427387904
theorem byteI_at {s : ByteArray} {k : Nat} (h : k < s.size) : s.data.toList[k]? = some (s.data.toList.getD k 0) ∧ byteI s (k : Int) = ((s.data.toList.getD k 0).toNat : Int) := by
 have hl : k < s.data.toList.length := h
 refine ⟨by rw [List.getD_eq_getElem?_getD, List.getElem?_eq_getElem hl]; rfl, ?_⟩
 unfold byteI
 rw [Int.toNat_natCast]
theorem m152_eq {s : ByteArray} (h : Ln s) : m152 s = varintM s := by
 unfold Ln at h
 unfold m152 varintM varintM_L1
 dsimp only
 rw [Int.toNat_natCast, loopS_inv (b := varintM_B1 s) (fun _ _ => True) s.size (fun i v hi _ => ⟨?_, fun _ _ => trivial⟩) s.size 0 0 (Nat.zero_add _) trivial]
 ·cases loopS (varintM_B1 s) 0 s.size 0 <;> rfl
 ·obtain ⟨e1, e2⟩ := byteI_at hi
  unfold varintM_B1
  dsimp only
  rw [e1, e2]
  dsimp only
  have hw : IntKind.wrap .i64 ((i : Int) + 1) = ((i + 1 : Nat) : Int) := by rw [wrap64_of _ (by omega) (by omega)]; omega
  rw [hw]
  rfl
theorem m82_eq {r : Rd} (h : Ln r.rest) : m82 r = ((rdIntM r).2, (rdIntM r).1) := by
 unfold m82 rdIntM
 rw [m151_eq]
 dsimp only
 rw [m152_eq h]
 cases (rdErrM r != 0) with
 | true => rfl
 | false =>
  simp only [cond_false]
  cases ((varintM r.rest).2.2 != 0) <;> rfl
theorem ln_ext {s : ByteArray} {a b : Nat} (h : Ln s) : Ln (s.extract a b) := by
 unfold Ln at h ⊢
 rw [ByteArray.size_extract]
 omega
theorem ln_int {r : Rd} (h : Ln r.rest) : Ln (rdIntM r).2.rest := by
 unfold rdIntM
 simp only [cond_eq_ite]
 repeat' split
 all_goals first | exact h | exact ln_ext h
theorem ln_count {r : Rd} {n : Int} (h : Ln r.rest) : Ln (rdCountM r n).2.rest := by
 have := ln_int h
 unfold rdCountM
 simp only [cond_eq_ite]
 repeat' split
 all_goals exact this
theorem ln_text {r : Rd} {n : Int} (h : Ln r.rest) : Ln (rdTextM r n).2.rest := by
 have := ln_count (n := n) h
 unfold rdTextM
 simp only [cond_eq_ite]
 repeat' split
 all_goals first | exact this | exact ln_ext this
theorem m153_eq {r : Rd} {n : Int} (h : Ln r.rest) : m153 r n = ((rdCountM r n).2, (rdCountM r n).1) := by
 unfold m153 rdCountM
 rw [m82_eq h]
 dsimp only
 rw [m151_eq]
 simp only [cond_eq_ite]
 repeat' split
 all_goals first | rfl | (simp_all [F2.den])
theorem m83_eq {r : Rd} {n : Int} (h : Ln r.rest) : m83 r n = ((rdTextM r n).2, (rdTextM r n).1) := by
 unfold m83 rdTextM
 rw [m153_eq h]
 dsimp only
 rw [m151_eq]
 simp only [cond_eq_ite]
 repeat' split
 all_goals rfl
theorem m154_eq (r : Rd) (e : Int) : m154 r e = rdFailM r e := by
 unfold m154 rdFailM
 rw [m151_eq]
theorem rdE (r : Rd) : (⟨r.rest, r.err, r.made⟩ : Rd) = r := rfl
theorem m84_eq {r : Rd} (h : Ln r.rest) : m84 r = ((takeM r).2, (takeM r).1) := by
 have h1 := ln_int h
 unfold m84 takeM takeM_v3 takeM_v1 takeM_v2
 rw [m82_eq h]
 dsimp only
 rw [m82_eq h1, m83_eq h1]
 simp only [m151_eq, m154_eq, m119_eq, rdE]
 cases ((rdIntM r).1 == 1) <;> cases ((rdIntM r).1 == 2) <;> cases ((rdIntM r).1 == 3) <;> cases ((rdIntM r).1 == 4) <;> simp only [cond_true, cond_false, Bool.true_or, Bool.or_true, Bool.false_or, Bool.or_false, rdE] <;> (cases (vCheckM _ != 0) <;> simp only [cond_true, cond_false] <;> (cases (rdErrM _ != 0) <;> rfl))
theorem m85_eq (r : Rd) : (m85 r).2 = rdEndM r := by
 unfold m85 m155 rdEndM rdLeftM
 rw [m151_eq]
 dsimp only
 cases (rdErrM r != 0) <;> simp only [cond_true, cond_false] <;> rw [m151_eq] <;> simp only [cond_eq_ite] <;> split <;> rfl
theorem m89_eq {q : Rd2} (ho : RdOk q) : m89 q = ((rrIntM q).2, (rrIntM q).1) := by
 have ho' := ho
 obtain ⟨h1, h2, h3⟩ := ho
 unfold m89 rrIntM rrIntM_L1
 rw [m156_eq]
 dsimp only
 cases (rrErrM q != 0) with
 | true => rfl
 | false =>
  simp only [cond_false]
  rw [show Int.toNat 10 = 10 from rfl, loopS_inv (b := fun i v => stepO (fun x : Int × RRd => (x.2, x.1)) (rrIntM_B1 q i v)) (fun _ _ => True) 10 (fun i v hi _ => ⟨?_, fun _ _ => trivial⟩) 10 0 0 (Nat.zero_add _) trivial,
   loopS_map (fun x : Int × RRd => (x.2, x.1)) (b := rrIntM_B1 q) (fun _ _ => rfl)]
  ·cases loopS (rrIntM_B1 q) 0 10 0 <;> rfl
  ·have w1 : IntKind.wrap .i64 (q.at_ + (i : Int)) = q.at_ + (i : Int) := wrap64_of _ (by omega) (by omega)
   unfold rrIntM_B1
   dsimp only
   cases hd : decide (IntKind.wrap .i64 (q.at_ + (i : Int)) ≥ (q.s.size : Int)) with
   | true => rfl
   | false =>
    have hd := of_decide_eq_false hd
    rw [w1] at hd
    obtain ⟨j, hj⟩ : ∃ j : Nat, q.at_ + (i : Int) = (j : Int) := ⟨(q.at_ + i).toNat, by omega⟩
    obtain ⟨e1, e2⟩ := byteI_at (s := q.s) (k := j) (by omega)
    simp only [cond_false]
    rw [w1, hj, Int.toNat_natCast, e1, e2]
    dsimp only
    show (bif _ then _ else bif _ then (bif _ then _ else _) else _) = stepO _ (bif _ then _ else bif _ then _ else _)
    simp only [cond_eq_ite]
    split
    ·rfl
    ·split
     ·show (if _ then _ else _) = Step.ret (_, if _ then _ else _)
      have hb : ∀ (c : Bool) (A : Rd2) (x y : Int), (if c = true then (Step.ret (A, x) : Step (Rd2 × Int) Int) else Step.ret (A, y)) = Step.ret (A, if c = true then x else y) := fun c A x y => by cases c <;> rfl
      exact hb _ _ _ _
     ·rfl
theorem m157_eq {q : Rd2} {n : Int} (ho : RdOk q) : m157 q n = ((rrCountM q n).2, (rrCountM q n).1) := by
 unfold m157 rrCountM
 rw [m89_eq ho]
 dsimp only
 rw [m156_eq]
 cases decide (n < 0) <;> simp only [cond_true, cond_false] <;> simp only [cond_eq_ite] <;> (repeat' split) <;> rfl
theorem m90_eq {q : Rd2} {n : Int} (ho : RdOk q) : m90 q n = ((rrTextM q n).2, (rrTextM q n).1) := by
 obtain ⟨h1, h2, h3⟩ := rrCountM_keep (n := n) ho
 have hn := rrCountM_nn q n
 unfold m90 rrTextM
 rw [m157_eq ho]
 dsimp only
 rw [m156_eq]
 dsimp only
 have w1 : IntKind.i64.wrap (((rrCountM q n).2.s.size : Int) - (rrCountM q n).2.at_) = ((rrCountM q n).2.s.size : Int) - (rrCountM q n).2.at_ := wrap64_of _ (by omega) (by omega)
 rw [w1]
 cases (rrErrM (rrCountM q n).2 != 0) with
 | true => rfl
 | false =>
  simp only [cond_false]
  cases hd : decide ((rrCountM q n).1 > ((rrCountM q n).2.s.size : Int) - (rrCountM q n).2.at_) with
  | true => rfl
  | false =>
   have hd := of_decide_eq_false hd
   have w2 : IntKind.i64.wrap ((rrCountM q n).2.at_ + (rrCountM q n).1) = (rrCountM q n).2.at_ + (rrCountM q n).1 := wrap64_of _ (by omega) (by omega)
   simp only [cond_false]
   rw [w2]
   rfl
theorem m158_eq (q : Rd2) (e : Int) : m158 q e = rrFailM q e := by
 unfold m158 rrFailM
 rw [m156_eq]
theorem rrE (r : Rd2) : (⟨r.s, r.at_, r.bad, r.made⟩ : Rd2) = r := rfl
theorem m91_eq {q : Rd2} (ho : RdOk q) : m91 q = ((rtakeM q).2, (rtakeM q).1) := by
 have h1 := rrIntM_keep ho
 have h2 := rrTextM_keep (n := 60) h1
 unfold m91 rtakeM rtakeM_v5 rtakeM_v4 rtakeM_v3 rtakeM_v1 rtakeM_v2
 rw [m89_eq ho]
 dsimp only
 rw [m90_eq h1]
 simp only [rrE]
 rw [m89_eq h1, m89_eq h2]
 simp only [m156_eq, m158_eq, m50_eq, rrE]
 cases ((rrIntM q).1 == 4) <;> simp only [cond_true, cond_false] <;> cases (decide ((rrIntM q).1 ≥ 1) && decide ((rrIntM q).1 ≤ 3)) <;> simp only [cond_true, cond_false] <;> (cases hE : (rrErrM _ == 0) <;> simp only [cond_true, cond_false, Bool.true_and, Bool.false_and, bne_self_eq_false]) <;> (repeat (cases (rvCheckM _ != 0) <;> simp only [cond_true, cond_false])) <;> (cases (rrErrM _ != 0) <;> rfl)
theorem m92_eq (q : Rd2) : (m92 q).2 = rrEndM q := by
 unfold m92 rrEndM
 rw [m156_eq]
 dsimp only
 rw [m156_eq]
 simp only [cond_eq_ite]
 repeat' split
 all_goals rfl
end Go.Av
namespace Go.Av
open Go Go.Hh
theorem p152_ok {s : ByteArray} (h : Ln s) : p152 s := by
 unfold Ln at h
 refine ⟨⟨by omega, by omega⟩, fun i _ => i ≤ 9, Nat.zero_le _, fun i d _ hi => ?_⟩
 have hi : i ≤ 9 := hi
 intro v5 hc
 refine ⟨?_, fun h8 => ?_⟩
 ·show 0 ≤ IntKind.wrap .i64 (7 * (i : Int))
  rw [wrap64_of _ (by omega) (by omega)]
  omega
 ·have h8 := of_decide_eq_false h8
  show i + 1 ≤ 9
  rcases Nat.lt_or_ge i 9 with h9 | h9
  ·exact h9
  ·have : i = 9 := by omega
   subst this
   simp only [Bool.or_eq_false_iff, Bool.and_eq_false_iff] at hc
   rcases hc.2 with h | h
   ·exact absurd h (by decide)
   ·have := of_decide_eq_false h
    omega
theorem varint_len {s : ByteArray} (h : (varintM s).2.2 = 0) : 0 ≤ (varintM s).2.1 ∧ (varintM s).2.1 ≤ (s.size : Int) := by
 obtain ⟨u, t, h1, h2, h3, h4⟩ := varint_dec (s := s) (U := (varintM s).1) (N := (varintM s).2.1) (by rw [← h])
 rw [h3]
 have := congrArg ByteArray.size h2
 rw [ByteArray.size_append] at this
 omega
theorem p82_ok {r : Rd} (h : Ln r.rest) : p82 r := by
 unfold p82
 rw [m151_eq]
 intro v1 _
 refine ⟨p152_ok h, fun hc => ?_⟩
 have hc := bz hc
 rw [m152_eq h] at hc ⊢
 exact varint_len hc
theorem p153_ok {r : Rd} {n : Int} (h : Ln r.rest) : p153 r n := p82_ok h
theorem p83_ok {r : Rd} {n : Int} (h : Ln r.rest) : p83 r n := by
 refine ⟨p153_ok h, ?_⟩
 rw [m153_eq h]
 show (_ != 0) = false → _
 rw [m151_eq]
 intro _ hd
 have hd := of_decide_eq_false hd
 have hn := rdCountM_nn r n
 have hd : ¬ (rdCountM r n).1 > ((rdCountM r n).2.rest.size : Int) := hd
 exact ⟨⟨hn, by omega⟩, hn, by omega⟩
theorem p84_ok {r : Rd} (h : Ln r.rest) : p84 r := by
 have h1 := ln_int h
 unfold p84
 rw [m82_eq h]
 dsimp only
 refine ⟨p82_ok h, ⟨fun _ => ⟨fun _ => p82_ok h1, fun _ _ => p83_ok h1⟩, fun _ => ⟨fun _ => ⟨fun _ => p82_ok h1, fun _ _ => p83_ok h1⟩, fun _ => ⟨fun _ => p82_ok h1, fun _ _ => p83_ok h1⟩⟩⟩⟩
theorem ln_fail {r : Rd} {e : Int} (h : Ln r.rest) : Ln (rdFailM r e).rest := by
 unfold rdFailM
 cases (rdErrM r == 0) <;> exact h
theorem ln_take {r : Rd} (h : Ln r.rest) : Ln (takeM r).2.rest := by
 have h1 := ln_int h
 have h2 : Ln (takeM_v2 r).rest := by
  unfold takeM_v2
  simp only [cond_eq_ite]
  repeat' split
  ·exact ln_int h1
  ·exact ln_text h1
  ·exact h1
 have h3 : Ln (takeM_v3 r).rest := by
  unfold takeM_v3
  simp only [cond_eq_ite]
  split
  ·exact ln_fail h2
  ·exact h2
 unfold takeM
 simp only [cond_eq_ite]
 split <;> exact h3
def dq1 (s : ByteArray) : Int × Rd := rdIntM (newRd s)
def dq2 (s : ByteArray) : Int × Rd := rdIntM (dq1 s).2
def dq3 (s : ByteArray) : Int × Rd := rdIntM (dq2 s).2
def dq4 (s : ByteArray) : ByteArray × Rd := rdTextM (dq3 s).2 24
def dq5 (s : ByteArray) : ByteArray × Rd := rdTextM (dq4 s).2 24
def dq6 (s : ByteArray) : ByteArray × Rd := rdTextM (dq5 s).2 24
def dq7 (s : ByteArray) : Val × Rd := takeM (dq6 s).2
def dq8 (s : ByteArray) : ByteArray × Rd := rdTextM (dq7 s).2 20000
def dq (s : ByteArray) : Req := ⟨(dq1 s).1, (dq2 s).1, ⟨(dq3 s).1, (dq4 s).1, (dq5 s).1⟩, (dq6 s).1, (dq7 s).1, (dq8 s).1⟩
def rz : Req := ⟨0, 0, ⟨0, ⟨#[]⟩, ⟨#[]⟩⟩, ⟨#[]⟩, ⟨0, 0, ⟨#[]⟩⟩, ⟨#[]⟩⟩
def decR (s : ByteArray) : Req × Int :=
 if rdEndM (dq8 s).2 ≠ 0 then (rz, rdEndM (dq8 s).2) else if (dq s).kind < 1 ∨ (dq s).kind > 7 then (rz, 7) else if (dq s).nonce < 0 ∨ (dq s).nonce > 1099511627776 then (rz, 2) else (dq s, 0)
theorem dq_ln {s : ByteArray} (h : Ln s) : Ln (dq1 s).2.rest ∧ Ln (dq2 s).2.rest ∧ Ln (dq3 s).2.rest ∧ Ln (dq4 s).2.rest ∧ Ln (dq5 s).2.rest ∧ Ln (dq6 s).2.rest ∧ Ln (dq7 s).2.rest := by
 have h1 : Ln (dq1 s).2.rest := ln_int h
 have h2 : Ln (dq2 s).2.rest := ln_int h1
 have h3 : Ln (dq3 s).2.rest := ln_int h2
 have h4 : Ln (dq4 s).2.rest := ln_text h3
 have h5 : Ln (dq5 s).2.rest := ln_text h4
 have h6 : Ln (dq6 s).2.rest := ln_text h5
 exact ⟨h1, h2, h3, h4, h5, h6, ln_take h6⟩
theorem m26_eq {s : ByteArray} (h : Ln s) : m26 s = decR s := by
 obtain ⟨h1, h2, h3, h4, h5, h6, h7⟩ := dq_ln h
 have e1 : m82 ⟨s, 0, true⟩ = ((dq1 s).2, (dq1 s).1) := m82_eq (r := ⟨s, 0, true⟩) h
 have e2 : m82 (dq1 s).2 = ((dq2 s).2, (dq2 s).1) := m82_eq h1
 have e3 : m82 (dq2 s).2 = ((dq3 s).2, (dq3 s).1) := m82_eq h2
 have e4 : m83 (dq3 s).2 24 = ((dq4 s).2, (dq4 s).1) := m83_eq h3
 have e5 : m83 (dq4 s).2 24 = ((dq5 s).2, (dq5 s).1) := m83_eq h4
 have e6 : m83 (dq5 s).2 24 = ((dq6 s).2, (dq6 s).1) := m83_eq h5
 have e7 : m84 (dq6 s).2 = ((dq7 s).2, (dq7 s).1) := m84_eq h6
 have e8 : m83 (dq7 s).2 20000 = ((dq8 s).2, (dq8 s).1) := m83_eq h7
 unfold m26 decR
 simp only [e1, e2, e3, e4, e5, e6, e7, e8, m85_eq]
 unfold m67 m69
 by_cases hE : rdEndM (dq8 s).2 = 0
 ·rw [hE, if_neg (fun h => h rfl)]
  simp only [bne_self_eq_false, cond_false]
  show (bif (bif (decide ((dq s).kind < 1) || decide ((dq s).kind > 7)) then (7 : Int) else 0) != 0 then _ else _) = _
  by_cases hK : (dq s).kind < 1 ∨ (dq s).kind > 7
  ·rw [if_pos hK, show (decide ((dq s).kind < 1) || decide ((dq s).kind > 7)) = true by simpa using hK]
   have : (decide ((dq1 s).1 < 1) || decide ((dq1 s).1 > 7)) = true := by have hK : (dq1 s).1 < 1 ∨ (dq1 s).1 > 7 := hK; simpa using hK
   rw [this]
   rfl
  ·rw [if_neg hK, show (decide ((dq s).kind < 1) || decide ((dq s).kind > 7)) = false by simp only [not_or] at hK; simp only [Bool.or_eq_false_iff, decide_eq_false_iff_not]; exact hK]
   show (bif (bif (decide ((dq s).nonce < 0) || decide ((dq s).nonce > 1099511627776)) then (2 : Int) else 0) != 0 then _ else _) = _
   by_cases hN : (dq s).nonce < 0 ∨ (dq s).nonce > 1099511627776
   ·rw [if_pos hN, show (decide ((dq s).nonce < 0) || decide ((dq s).nonce > 1099511627776)) = true by simpa using hN]
    have : (decide ((dq2 s).1 < 0) || decide ((dq2 s).1 > 1099511627776)) = true := by have hN : (dq2 s).1 < 0 ∨ (dq2 s).1 > 1099511627776 := hN; simpa using hN
    rw [this]
    rfl
   ·rw [if_neg hN, show (decide ((dq s).nonce < 0) || decide ((dq s).nonce > 1099511627776)) = false by simp only [not_or] at hN; simp only [Bool.or_eq_false_iff, decide_eq_false_iff_not]; exact hN]
    rfl
 ·rw [if_pos hE, show (rdEndM (dq8 s).2 != 0) = true by simpa using hE]
  simp only [cond_true]
  rfl
theorem p26_ok {s : ByteArray} (h : Ln s) : p26 s := by
 obtain ⟨h1, h2, h3, h4, h5, h6, h7⟩ := dq_ln h
 have e1 : m82 ⟨s, 0, true⟩ = ((dq1 s).2, (dq1 s).1) := m82_eq (r := ⟨s, 0, true⟩) h
 have e2 : m82 (dq1 s).2 = ((dq2 s).2, (dq2 s).1) := m82_eq h1
 have e3 : m82 (dq2 s).2 = ((dq3 s).2, (dq3 s).1) := m82_eq h2
 have e4 : m83 (dq3 s).2 24 = ((dq4 s).2, (dq4 s).1) := m83_eq h3
 have e5 : m83 (dq4 s).2 24 = ((dq5 s).2, (dq5 s).1) := m83_eq h4
 have e6 : m83 (dq5 s).2 24 = ((dq6 s).2, (dq6 s).1) := m83_eq h5
 have e7 : m84 (dq6 s).2 = ((dq7 s).2, (dq7 s).1) := m84_eq h6
 unfold p26
 simp only [e1, e2, e3, e4, e5, e6, e7]
 exact ⟨p82_ok (r := ⟨s, 0, true⟩) h, p82_ok h1, p82_ok h2, p83_ok h3, p83_ok h4, p83_ok h5, p84_ok h6, p83_ok h7⟩
def rq1 (s : ByteArray) : Int × Rd2 := rrIntM (newRRd s)
def rq2 (s : ByteArray) : Int × Rd2 := rrIntM (rq1 s).2
def rq3 (s : ByteArray) : Int × Rd2 := rrIntM (rq2 s).2
def rq4 (s : ByteArray) : ByteArray × Rd2 := rrTextM (rq3 s).2 24
def rq5 (s : ByteArray) : ByteArray × Rd2 := rrTextM (rq4 s).2 24
def rq6 (s : ByteArray) : ByteArray × Rd2 := rrTextM (rq5 s).2 24
def rq7 (s : ByteArray) : Val × Rd2 := rtakeM (rq6 s).2
def rq8 (s : ByteArray) : ByteArray × Rd2 := rrTextM (rq7 s).2 20000
theorem rel_new' {s : ByteArray} (h : Ln s) : RelR (newRd s) (newRRd s) := by
 refine ⟨⟨Int.le_refl _, by show (0 : Int) ≤ s.size; omega, h⟩, ?_⟩
 show (⟨s, 0, true⟩ : Rd) = ⟨s.extract 0 s.size, 0, true⟩
 rw [show s.extract 0 s.size = s from bytes_ext (by rw [ext_list]; rfl)]
theorem rq_sim {s : ByteArray} (h : Ln s) : ((dq1 s).1 = (rq1 s).1 ∧ RelR (dq1 s).2 (rq1 s).2) ∧ ((dq2 s).1 = (rq2 s).1 ∧ RelR (dq2 s).2 (rq2 s).2) ∧ ((dq3 s).1 = (rq3 s).1 ∧ RelR (dq3 s).2 (rq3 s).2) ∧ ((dq4 s).1 = (rq4 s).1 ∧ RelR (dq4 s).2 (rq4 s).2) ∧
    ((dq5 s).1 = (rq5 s).1 ∧ RelR (dq5 s).2 (rq5 s).2) ∧ ((dq6 s).1 = (rq6 s).1 ∧ RelR (dq6 s).2 (rq6 s).2) ∧ ((dq7 s).1 = (rq7 s).1 ∧ RelR (dq7 s).2 (rq7 s).2) ∧ ((dq8 s).1 = (rq8 s).1 ∧ RelR (dq8 s).2 (rq8 s).2) := by
  have h1 := sim_int _ _ (rel_new' h)
  have h2 := sim_int _ _ h1.2
  have h3 := sim_int _ _ h2.2
  have h4 := sim_text 24 _ _ h3.2
  have h5 := sim_text 24 _ _ h4.2
  have h6 := sim_text 24 _ _ h5.2
  have h7 := sim_take _ _ h6.2
  exact ⟨h1, h2, h3, h4, h5, h6, h7, sim_text 20000 _ _ h7.2⟩
theorem m27_eq {s : ByteArray} (h : Ln s) : m27 s = decR s := by
 obtain ⟨s1, s2, s3, s4, s5, s6, s7, s8⟩ := rq_sim h
 have e1 : m89 ⟨s, 0, 0, true⟩ = ((rq1 s).2, (rq1 s).1) := m89_eq (q := ⟨s, 0, 0, true⟩) (rel_new' h).1
 have e2 : m89 (rq1 s).2 = ((rq2 s).2, (rq2 s).1) := m89_eq s1.2.1
 have e3 : m89 (rq2 s).2 = ((rq3 s).2, (rq3 s).1) := m89_eq s2.2.1
 have e4 : m90 (rq3 s).2 24 = ((rq4 s).2, (rq4 s).1) := m90_eq s3.2.1
 have e5 : m90 (rq4 s).2 24 = ((rq5 s).2, (rq5 s).1) := m90_eq s4.2.1
 have e6 : m90 (rq5 s).2 24 = ((rq6 s).2, (rq6 s).1) := m90_eq s5.2.1
 have e7 : m91 (rq6 s).2 = ((rq7 s).2, (rq7 s).1) := m91_eq s6.2.1
 have e8 : m90 (rq7 s).2 20000 = ((rq8 s).2, (rq8 s).1) := m90_eq s7.2.1
 unfold m27 decR
 simp only [e1, e2, e3, e4, e5, e6, e7, e8, m92_eq]
 rw [← sim_end s8.2]
 have hk : (rq1 s).1 = (dq s).kind := s1.1.symm
 have hn : (rq2 s).1 = (dq s).nonce := s2.1.symm
 have hd : (⟨(rq1 s).1, (rq2 s).1, ⟨(rq3 s).1, (rq4 s).1, (rq5 s).1⟩, (rq6 s).1, ⟨(rq7 s).1.kind, (rq7 s).1.n, (rq7 s).1.s⟩, (rq8 s).1⟩ : Req) = dq s := by
  unfold dq
  rw [s1.1, s2.1, s3.1, s4.1, s5.1, s6.1, s7.1, s8.1]
 rw [hd, hk, hn]
 by_cases hE : rdEndM (dq8 s).2 = 0
 ·rw [hE, if_neg (fun h => h rfl)]
  simp only [bne_self_eq_false, cond_false]
  by_cases hK : (dq s).kind < 1 ∨ (dq s).kind > 7
  ·rw [if_pos hK, show (decide ((dq s).kind < 1) || decide ((dq s).kind > 7)) = true by simpa using hK]
   rfl
  ·rw [if_neg hK, show (decide ((dq s).kind < 1) || decide ((dq s).kind > 7)) = false by simp only [not_or] at hK; simp only [Bool.or_eq_false_iff, decide_eq_false_iff_not]; exact hK]
   by_cases hN : (dq s).nonce < 0 ∨ (dq s).nonce > 1099511627776
   ·rw [if_pos hN, show (decide ((dq s).nonce < 0) || decide ((dq s).nonce > 1099511627776)) = true by simpa using hN]
    rfl
   ·rw [if_neg hN, show (decide ((dq s).nonce < 0) || decide ((dq s).nonce > 1099511627776)) = false by simp only [not_or] at hN; simp only [Bool.or_eq_false_iff, decide_eq_false_iff_not]; exact hN]
    rfl
 ·rw [if_pos hE, show (rdEndM (dq8 s).2 != 0) = true by simpa using hE]
  rfl
theorem p89_ok {q : Rd2} (ho : RdOk q) : p89 q := by
 obtain ⟨h1, h2, h3⟩ := ho
 unfold p89
 rw [m156_eq]
 intro v1 _
 refine ⟨fun _ _ => True, trivial, fun i d hi _ => ?_⟩
 have hi : i < 10 := hi
 have w1 : IntKind.wrap .i64 (q.at_ + (i : Int)) = q.at_ + (i : Int) := wrap64_of _ (by omega) (by omega)
 show decide (IntKind.wrap .i64 (q.at_ + (i : Int)) ≥ (q.s.size : Int)) = false → (0 ≤ IntKind.wrap .i64 (q.at_ + (i : Int)) ∧ IntKind.wrap .i64 (q.at_ + (i : Int)) < (q.s.size : Int)) ∧ _
 rw [w1]
 intro hd
 have hd := of_decide_eq_false hd
 refine ⟨⟨by omega, by omega⟩, fun _ => ⟨?_, fun _ => trivial⟩⟩
 show 0 ≤ IntKind.wrap .i64 (7 * (i : Int))
 rw [wrap64_of _ (by omega) (by omega)]
 omega
theorem p157_ok {q : Rd2} {n : Int} (ho : RdOk q) : p157 q n := p89_ok ho
theorem p90_ok {q : Rd2} {n : Int} (ho : RdOk q) : p90 q n := by
 obtain ⟨h1, h2, h3⟩ := rrCountM_keep (n := n) ho
 have hn := rrCountM_nn q n
 refine ⟨p157_ok ho, ?_⟩
 rw [m157_eq ho]
 show (_ != 0) = false → _
 rw [m156_eq]
 intro _ hd
 have w1 : IntKind.i64.wrap (((rrCountM q n).2.s.size : Int) - (rrCountM q n).2.at_) = ((rrCountM q n).2.s.size : Int) - (rrCountM q n).2.at_ := wrap64_of _ (by omega) (by omega)
 have hd : decide ((rrCountM q n).1 > IntKind.i64.wrap (((rrCountM q n).2.s.size : Int) - (rrCountM q n).2.at_)) = false := hd
 rw [w1] at hd
 have hd := of_decide_eq_false hd
 have w2 : IntKind.i64.wrap ((rrCountM q n).2.at_ + (rrCountM q n).1) = (rrCountM q n).2.at_ + (rrCountM q n).1 := wrap64_of _ (by omega) (by omega)
 show 0 ≤ (rrCountM q n).2.at_ ∧ (rrCountM q n).2.at_ ≤ IntKind.i64.wrap ((rrCountM q n).2.at_ + (rrCountM q n).1) ∧ IntKind.i64.wrap ((rrCountM q n).2.at_ + (rrCountM q n).1) ≤ ((rrCountM q n).2.s.size : Int)
 rw [w2]
 omega
theorem p91_ok {q : Rd2} (ho : RdOk q) : p91 q := by
 have h1 := rrIntM_keep ho
 have h2 := rrTextM_keep (n := 60) h1
 unfold p91
 rw [m89_eq ho]
 dsimp only
 refine ⟨p89_ok ho, fun _ => ⟨p90_ok h1, ?_⟩, fun _ _ => p89_ok h1⟩
 rw [m90_eq h1]
 exact fun _ => p89_ok h2
theorem p27_ok {s : ByteArray} (h : Ln s) : p27 s := by
 obtain ⟨s1, s2, s3, s4, s5, s6, s7, s8⟩ := rq_sim h
 have e1 : m89 ⟨s, 0, 0, true⟩ = ((rq1 s).2, (rq1 s).1) := m89_eq (q := ⟨s, 0, 0, true⟩) (rel_new' h).1
 have e2 : m89 (rq1 s).2 = ((rq2 s).2, (rq2 s).1) := m89_eq s1.2.1
 have e3 : m89 (rq2 s).2 = ((rq3 s).2, (rq3 s).1) := m89_eq s2.2.1
 have e4 : m90 (rq3 s).2 24 = ((rq4 s).2, (rq4 s).1) := m90_eq s3.2.1
 have e5 : m90 (rq4 s).2 24 = ((rq5 s).2, (rq5 s).1) := m90_eq s4.2.1
 have e6 : m90 (rq5 s).2 24 = ((rq6 s).2, (rq6 s).1) := m90_eq s5.2.1
 have e7 : m91 (rq6 s).2 = ((rq7 s).2, (rq7 s).1) := m91_eq s6.2.1
 unfold p27
 simp only [e1, e2, e3, e4, e5, e6, e7]
 exact ⟨p89_ok (q := ⟨s, 0, 0, true⟩) (rel_new' h).1, p89_ok s1.2.1, p89_ok s2.2.1, p90_ok s3.2.1, p90_ok s4.2.1, p90_ok s5.2.1, p91_ok s6.2.1, p90_ok s7.2.1⟩
end Go.Av
namespace Go.Av
open Go Go.Hh
def okG (P : Int → Int → Bool) (x : ByteArray) : Nat → Nat → Bool
 | _, 0 => true
 | k, n + 1 => !P (byteI x (k : Int)) (k : Int) && okG P x (k + 1) n
theorem g_bytes {P : Int → Int → Bool} {x : ByteArray} {b : Nat → Unit → Step Bool Unit} (hb : ∀ i v, b i v = bif P (byteI x (i : Int)) (i : Int) then .ret false else .nxt ()) :
    ∀ (n k : Nat), loopS b k n () = bif okG P x k n then .inr () else .inl false
  | 0, _ => rfl
  | n + 1, k => by
    unfold loopS okG
    rw [hb]
    cases P (byteI x (k : Int)) (k : Int) with
    | true => rfl
    | false => exact g_bytes hb n (k + 1)
theorem byte_of {x : ByteArray} {k : Nat} (hk : k < x.size) : byteI x (k : Int) = ((x[k]'hk).toNat : Int) := by
 rw [(byteI_at hk).2, List.getD_eq_getElem?_getD, List.getElem?_eq_getElem (show k < x.data.toList.length from hk)]
 rfl
theorem g_runes {P : Int → Int → Bool} (hP : ∀ c i, 128 ≤ c → P c i = true) {x : ByteArray} {b : Int → Step Bool Int}
    (hb : ∀ c, b c = bif F2.den .rnB x c then (bif P (F2.den .rnV x c) (F2.den .rnP x c) then .ret false else .nxt (F2.den .rnN x c)) else .brk c) :
    ∀ (n p F : Nat), x.size - p = n → n < F → ∃ v, loopW b F (p : Int) = bif okG P x p n then .inr v else .inl false
  | n, p, 0, _, h => absurd h (Nat.not_lt_zero _)
  | 0, p, F + 1, hn, _ => by
    refine ⟨(p : Int), ?_⟩
    have : F2.den .rnB x (p : Int) = false := decide_eq_false (by rw [Int.toNat_natCast]; omega)
    rw [loopW_brk1 (y := (p : Int)) (by rw [hb, this, cond_false]), okG, cond_true]
  | n + 1, p, F + 1, hn, hF => by
    have hp : p < x.size := by omega
    have h1 : F2.den .rnB x (p : Int) = true := decide_eq_true (by rw [Int.toNat_natCast]; exact hp)
    have h3 : F2.den .rnP x (p : Int) = (p : Int) := by show ((p : Int).toNat : Int) = p; rw [Int.toNat_natCast]
    have h2 : F2.den .rnV x (p : Int) = ((Utf8.decode x p).1 : Int) := by show ((Utf8.decode x (p : Int).toNat).1 : Int) = _; rw [Int.toNat_natCast]
    have h4 : F2.den .rnN x (p : Int) = ((p + (Utf8.decode x p).2 : Nat) : Int) := by show (((p : Int).toNat + (Utf8.decode x (p : Int).toNat).2 : Nat) : Int) = _; rw [Int.toNat_natCast]
    rcases Nat.lt_or_ge (x[p]'hp).toNat 128 with ha | ha
    · have hd := decode_ascii x p hp ha
      have hv : ((Utf8.decode x p).1 : Int) = byteI x (p : Int) := by rw [hd, byte_of hp]
      have hn4 : p + (Utf8.decode x p).2 = p + 1 := by rw [hd]
      cases hq : P (byteI x (p : Int)) (p : Int) with
      | true =>
        refine ⟨0, ?_⟩
        unfold loopW okG
        rw [hb, h1, cond_true, h2, h3, hv, hq]
        rfl
      | false =>
        obtain ⟨v, ih⟩ := g_runes hP hb n (p + 1) F (by omega) (by omega)
        refine ⟨v, ?_⟩
        rw [loopW_nxt1 (y := ((p + 1 : Nat) : Int)) (by rw [hb, h1, cond_true, h2, h3, hv, hq, cond_false, h4, hn4]), ih]
        conv => rhs; rw [okG]
        rw [hq]
        rfl
    · have hd := (decode_high x p hp ha).1
      have e1 : P ((Utf8.decode x p).1 : Int) (p : Int) = true := hP _ _ (by omega)
      have e2 : P (byteI x (p : Int)) (p : Int) = true := hP _ _ (by rw [byte_of hp]; omega)
      refine ⟨0, ?_⟩
      unfold loopW okG
      rw [hb, h1, cond_true, h2, h3, e1, e2]
      rfl
theorem g_ask {P : Int → Int → Bool} (hP : ∀ c i, 128 ≤ c → P c i = true) {x : ByteArray} (h64 : x.size < 18446744073709551616) :
    ∃ (I0 : Int → Prop) (u0 : Int → Nat), I0 0 ∧ u0 0 < fuelW ∧ ∀ (d0 : Int), I0 d0 → (F2.den .rnB x d0 = true → (P (F2.den .rnV x d0) (F2.den .rnP x d0) = false → I0 (F2.den .rnN x d0) ∧ u0 (F2.den .rnN x d0) < u0 d0)) := by
  refine ⟨fun d => 0 ≤ d, fun d => x.size - d.toNat, Int.le_refl _, by unfold fuelW; show x.size - (0 : Int).toNat < _; omega, fun d hd h1 h2 => ?_⟩
  obtain ⟨p, rfl⟩ : ∃ p : Nat, d = p := ⟨d.toNat, (Int.toNat_of_nonneg hd).symm⟩
  have hp : p < x.size := by have := of_decide_eq_true h1; rwa [Int.toNat_natCast] at this
  have h3 : F2.den .rnP x (p : Int) = (p : Int) := by show ((p : Int).toNat : Int) = p; rw [Int.toNat_natCast]
  have h2' : F2.den .rnV x (p : Int) = ((Utf8.decode x p).1 : Int) := by show ((Utf8.decode x (p : Int).toNat).1 : Int) = _; rw [Int.toNat_natCast]
  have h4 : F2.den .rnN x (p : Int) = ((p + (Utf8.decode x p).2 : Nat) : Int) := by show (((p : Int).toNat + (Utf8.decode x (p : Int).toNat).2 : Nat) : Int) = _; rw [Int.toNat_natCast]
  rcases Nat.lt_or_ge (x[p]'hp).toNat 128 with ha | ha
  · have hd := decode_ascii x p hp ha
    rw [h4, hd]
    refine ⟨by show (0 : Int) ≤ _; omega, ?_⟩
    show x.size - (((p + 1 : Nat) : Int)).toNat < x.size - ((p : Int)).toNat
    omega
  · have hd := (decode_high x p hp ha).1
    rw [h2', h3, hP _ _ (by omega)] at h2
    cases h2
def nmBad (c i : Int) : Bool := (!(decide (c ≥ 97) && decide (c ≤ 122))) && ((i == 0) || (((c != 95) && (c != 45)) && ((decide (c < 48)) || (decide (c > 57)))))
theorem nmBad_high (c i : Int) (h : 128 ≤ c) : nmBad c i = true := by
 unfold nmBad
 have h1 : decide (c ≤ 122) = false := decide_eq_false (by omega)
 have h2 : (c != 95) = true := by simp; omega
 have h3 : (c != 45) = true := by simp; omega
 have h4 : decide (c > 57) = true := decide_eq_true (by omega)
 simp only [h1, h2, h3, h4, Bool.and_false, Bool.not_false, Bool.and_true, Bool.or_true, Bool.true_and]
def valid (x : ByteArray) : Bool := bif ((decide ((ByteArray.size x : Int) < 1)) || (decide ((ByteArray.size x : Int) > 24))) then false else okG nmBad x 0 x.size
theorem m118_eq (x : ByteArray) : m118 x = valid x := by
 unfold m118 valid
 cases h : ((decide ((ByteArray.size x : Int) < 1)) || (decide ((ByteArray.size x : Int) > 24))) with
 | true => rfl
 | false =>
  simp only [Bool.or_eq_false_iff, decide_eq_false_iff_not] at h
  simp only [cond_false]
  obtain ⟨v, hv⟩ := g_runes nmBad_high (x := x) (b := fun (c1 : Int) => bif F2.den .rnB x c1 then (bif nmBad (F2.den .rnV x c1) (F2.den .rnP x c1) then Step.ret false else .nxt (F2.den .rnN x c1)) else .brk c1) (fun _ => rfl) x.size 0 fuelW (by omega) (by unfold fuelW; omega)
  have : (loopW (fun (c1 : Int) => bif F2.den .rnB x c1 then (bif nmBad (F2.den .rnV x c1) (F2.den .rnP x c1) then Step.ret false else .nxt (F2.den .rnN x c1)) else .brk c1) fuelW 0 : Bool ⊕ Int) = _ := hv
  show Sum.elim _ _ (loopW (fun (c1 : Int) => bif F2.den .rnB x c1 then (bif nmBad (F2.den .rnV x c1) (F2.den .rnP x c1) then Step.ret false else .nxt (F2.den .rnN x c1)) else .brk c1) fuelW 0 : Bool ⊕ Int) = _
  rw [this]
  cases okG nmBad x 0 x.size <;> rfl
theorem p118_ok (x : ByteArray) : p118 x := by
 intro h
 simp only [Bool.or_eq_false_iff, decide_eq_false_iff_not] at h
 exact g_ask nmBad_high (x := x) (by omega)
theorem m78_eq (x : ByteArray) : m78 x = valid x := by
 unfold m78 valid
 dsimp only
 cases h : ((decide ((ByteArray.size x : Int) < 1)) || (decide ((ByteArray.size x : Int) > 24))) with
 | true => rfl
 | false =>
  simp only [cond_false]
  rw [Int.toNat_natCast]
  show Sum.elim _ _ (loopS (fun (i6 : Nat) (_ : Unit) => bif nmBad (byteI x (i6 : Int)) (i6 : Int) then (Step.ret false : Step Bool Unit) else .nxt ()) 0 x.size ()) = _
  rw [g_bytes (P := nmBad) (x := x) (fun _ _ => rfl)]
  cases okG nmBad x 0 x.size <;> rfl
theorem p78_ok (x : ByteArray) : p78 x := by
 intro h
 simp only [Bool.or_eq_false_iff, decide_eq_false_iff_not] at h
 omega
def tkBad (c _i : Int) : Bool := (decide (c < 33)) || (decide (c > 126))
theorem tkBad_high (c i : Int) (h : 128 ≤ c) : tkBad c i = true := by
 unfold tkBad
 rw [decide_eq_true (show c > 126 by omega), Bool.or_true]
def seen (x : ByteArray) : Bool := okG tkBad x 0 x.size && ((decide ((ByteArray.size x : Int) ≥ 1)) && (decide ((ByteArray.size x : Int) ≤ 1000)))
theorem m120_eq {x : ByteArray} (h : x.size < 9223372036854775808) : m120 x = seen x := by
 unfold m120 seen
 obtain ⟨v, hv⟩ := g_runes tkBad_high (x := x) (b := fun (c1 : Int) => bif F2.den .rnB x c1 then (bif tkBad (F2.den .rnV x c1) (F2.den .rnP x c1) then Step.ret false else .nxt (F2.den .rnN x c1)) else .brk c1) (fun _ => rfl) x.size 0 fuelW (by omega) (by unfold fuelW; omega)
 have : (loopW (fun (c1 : Int) => bif F2.den .rnB x c1 then (bif tkBad (F2.den .rnV x c1) (F2.den .rnP x c1) then Step.ret false else .nxt (F2.den .rnN x c1)) else .brk c1) fuelW 0 : Bool ⊕ Int) = _ := hv
 show Sum.elim _ _ (loopW (fun (c1 : Int) => bif F2.den .rnB x c1 then (bif tkBad (F2.den .rnV x c1) (F2.den .rnP x c1) then Step.ret false else .nxt (F2.den .rnN x c1)) else .brk c1) fuelW 0 : Bool ⊕ Int) = _
 rw [this]
 cases okG tkBad x 0 x.size <;> rfl
theorem p120_ok {x : ByteArray} (h : x.size < 9223372036854775808) : p120 x := g_ask tkBad_high (x := x) (by omega)
theorem m53_eq (x : ByteArray) : m53 x = seen x := by
 unfold m53 seen
 dsimp only
 by_cases h1 : (x.size : Int) < 1
 ·rw [decide_eq_true h1, Bool.true_or, cond_true, decide_eq_false (show ¬ (x.size : Int) ≥ 1 by omega), Bool.false_and, Bool.and_false]
 ·by_cases h2 : (x.size : Int) > 1000
  ·rw [decide_eq_true h2, Bool.or_true, cond_true, decide_eq_false (show ¬ (x.size : Int) ≤ 1000 by omega), Bool.and_false, Bool.and_false]
  ·rw [decide_eq_false h1, decide_eq_false h2, Bool.or_false, cond_false, decide_eq_true (show (x.size : Int) ≥ 1 by omega), decide_eq_true (show (x.size : Int) ≤ 1000 by omega), Int.toNat_natCast]
   show Sum.elim _ _ (loopS (fun (i6 : Nat) (_ : Unit) => bif tkBad (byteI x (i6 : Int)) (i6 : Int) then (Step.ret false : Step Bool Unit) else .nxt ()) 0 x.size ()) = _
   rw [g_bytes (P := tkBad) (x := x) (fun _ _ => rfl)]
   cases okG tkBad x 0 x.size <;> rfl
theorem p53_ok (x : ByteArray) : p53 x := by
 intro h
 simp only [Bool.or_eq_false_iff, decide_eq_false_iff_not] at h
 omega
end Go.Av
namespace Go.Av
open Go Go.Hh
theorem bsz (a b : ByteArray) : ByteArray.size (ByteArray.append a b) = a.size + b.size := ByteArray.size_append
theorem I64.p {n : Int} (h : I64 n) : p52 n := ⟨h.1, by have := h.2; omega⟩
theorem i64_small {n : Int} (h1 : -1099511627776 ≤ n) (h2 : n ≤ 1099511627776) : I64 n := ⟨by omega, by omega⟩
structure OkV (v : Val) : Prop where
 k : I64 v.kind
 n : I64 v.n
 s : Sz v.s
theorem m95_zero {v : Val} (h : m119 v ≠ 0) : m95 v = m93 0 := by
 unfold m95
 rw [show (m119 v != 0) = true by simpa using h]
 rfl
theorem m98_zero {v : Val} (h : m119 v ≠ 0) : m98 v = m96 0 := by
 unfold m98
 rw [m119_m50, show (m119 v != 0) = true by simpa using h]
 rfl
theorem sz60 {s : ByteArray} (h : s.size ≤ 60) : Sz s := by unfold Sz; omega
theorem m98_m95 (v : Val) : m98 v = m95 v := by
 by_cases h : m119 v = 0
 ·have hc : vCheckM v = 0 := by rw [← m119_eq]; exact h
  unfold m98 m95
  rw [m119_m50, show (m119 v != 0) = false by simpa using h]
  rcases vcheck_cases hc with ⟨h1, h2, h3⟩ | ⟨h1, h2, h3, h4⟩ | ⟨h1, h2, h3⟩
  ·rw [h1]
   exact m96_m93 (n := 0) (i64_small (by decide) (by decide))
  ·have hn : m96 v.n = m93 v.n := m96_m93 (i64_small h3 h4)
   rcases h1 with h1 | h1 | h1 <;> rw [h1] <;> simp only [cond_false] <;> rw [hn] <;> rfl
  ·have hs : m97 v.s = m94 v.s := m97_m94 (sz60 h3)
   rw [h1]
   simp only [cond_false]
   rw [hs]
   rfl
 ·rw [m95_zero h, m98_zero h]
  exact m96_m93 (n := 0) (i64_small (by decide) (by decide))
theorem m94_sz60 {s : ByteArray} (h : s.size ≤ 60) : (m94 s).size ≤ 70 := by
 rw [m94_eq (sz60 h), ByteArray.size_append]
 have := vbs_sz (u := zig s.size)
 omega
theorem z64 : I64 0 := i64_small (by decide) (by decide)
theorem m95_size (v : Val) : (m95 v).size ≤ 80 := by
 have h0 := m93_size z64
 by_cases h : m119 v = 0
 ·have hc : vCheckM v = 0 := by rw [← m119_eq]; exact h
  unfold m95
  rw [show (m119 v != 0) = false by simpa using h]
  rcases vcheck_cases hc with ⟨h1, h2, h3⟩ | ⟨h1, h2, h3, h4⟩ | ⟨h1, h2, h3⟩
  ·rw [h1]
   show (m93 0).size ≤ 80
   omega
  ·have hn := m93_size (i64_small h3 h4)
   rcases h1 with h1 | h1 | h1
   ·rw [h1]
    show (ByteArray.append (m93 1) (m93 v.n)).size ≤ 80
    rw [bsz]
    have := m93_size (n := 1) (i64_small (by decide) (by decide))
    omega
   ·rw [h1]
    show (ByteArray.append (m93 2) (m93 v.n)).size ≤ 80
    rw [bsz]
    have := m93_size (n := 2) (i64_small (by decide) (by decide))
    omega
   ·rw [h1]
    show (ByteArray.append (m93 3) (m93 v.n)).size ≤ 80
    rw [bsz]
    have := m93_size (n := 3) (i64_small (by decide) (by decide))
    omega
  ·have hs := m94_sz60 h3
   rw [h1]
   show (ByteArray.append (m93 4) (m94 v.s)).size ≤ 80
   rw [bsz]
   have := m93_size (n := 4) (i64_small (by decide) (by decide))
   omega
 ·rw [m95_zero h]
  omega
def J95 (k n : Int) (s : ByteArray) (b : Bool) : Prop := (b = true → (p93 n ∧ (m93 k).size + (m93 n).size ≤ 9223372036854775807)) ∧ (b = false → ((k == 4) = true → (p94 s ∧ (m93 k).size + (m94 s).size ≤ 9223372036854775807)))
theorem p95_ok {v : Val} (hv : OkV v) : p95 v := by
 have key : ∀ (k n : Int) (s : ByteArray), I64 k → I64 n → Sz s → (p93 k) ∧ ((k == 1) = true → J95 k n s (k == 1)) ∧ ((k == 1) = false → ((k == 2) = true → J95 k n s (k == 2)) ∧ ((k == 2) = false → J95 k n s (k == 3))) := by
  intro k n s hk hn hs
  have a1 := m93_size hk
  have a2 := m93_size hn
  have a3 := m94_size hs
  have hj : ∀ b, J95 k n s b := fun b => ⟨fun _ => ⟨p93_ok hn, by omega⟩, fun _ _ => ⟨p94_ok hs, by omega⟩⟩
  exact ⟨p93_ok hk, fun _ => hj _, fun _ => ⟨fun _ => hj _, fun _ => hj _⟩⟩
 exact ⟨fun _ => key 0 0 ⟨#[]⟩ z64 z64 (by unfold Sz; exact Nat.zero_le _), fun _ => key v.kind v.n v.s hv.k hv.n hv.s⟩
theorem p98_ok {v : Val} (hv : OkV v) : p98 v := by
 have key : ∀ (k n : Int) (s : ByteArray), I64 k → I64 n → Sz s → ((k == 0) = true → p96 0) ∧ ((k == 0) = false → (((k == 4) = true → (p96 k ∧ p97 s ∧ (m96 k).size + (m97 s).size ≤ 9223372036854775807)) ∧ ((k == 4) = false → (p96 k ∧ p96 n ∧ (m96 k).size + (m96 n).size ≤ 9223372036854775807)))) := by
  intro k n s hk hn hs
  have a1 := m93_size hk
  have a2 := m93_size hn
  have a3 := m94_size hs
  rw [← m96_m93 hk] at a1
  rw [← m96_m93 hn] at a2
  rw [← m97_m94 hs] at a3
  exact ⟨fun _ => p96_ok z64, fun _ => ⟨fun _ => ⟨p96_ok hk, p97_ok hs, by omega⟩, fun _ => ⟨p96_ok hk, p96_ok hn, by omega⟩⟩⟩
 exact ⟨fun _ => key 0 0 ⟨#[]⟩ z64 z64 (by unfold Sz; exact Nat.zero_le _), fun _ => key v.kind v.n v.s hv.k hv.n hv.s⟩
structure OkQ (q : Req) : Prop where
 k : I64 q.kind
 n : I64 q.nonce
 d : I64 q.key.dev
 c : Sz q.key.cluster
 a : Sz q.key.attr
 m : Sz q.name
 v : OkV q.value
 t : Sz q.text
theorem m29_m28 {q : Req} (h : OkQ q) : m29 q = m28 q := by
 unfold m29 m28
 rw [m96_m93 h.k, m96_m93 h.n, m96_m93 h.d, m97_m94 h.c, m97_m94 h.a, m97_m94 h.m, m98_m95, m97_m94 h.t]
theorem sizes_q {q : Req} (h : OkQ q) : (m93 q.kind).size ≤ 10 ∧ (m93 q.nonce).size ≤ 10 ∧ (m93 q.key.dev).size ≤ 10 ∧ (m94 q.key.cluster).size ≤ 140737488351242 ∧ (m94 q.key.attr).size ≤ 140737488351242 ∧ (m94 q.name).size ≤ 140737488351242 ∧ (m95 q.value).size ≤ 80 ∧ (m94 q.text).size ≤ 140737488351242 :=
 ⟨m93_size h.k, m93_size h.n, m93_size h.d, m94_size h.c, m94_size h.a, m94_size h.m, m95_size _, m94_size h.t⟩
theorem m28_ln {q : Req} (h : OkQ q) : Ln (m28 q) := by
 obtain ⟨h1, h2, h3, h4, h5, h6, h7, h8⟩ := sizes_q h
 have h7' : (m95 ⟨q.value.kind, q.value.n, q.value.s⟩).size ≤ 80 := h7
 unfold Ln m28
 simp only [bsz]
 omega
theorem p28_ok {q : Req} (h : OkQ q) : p28 q := by
 obtain ⟨h1, h2, h3, h4, h5, h6, h7, h8⟩ := sizes_q h
 have h7' : (m95 ⟨q.value.kind, q.value.n, q.value.s⟩).size ≤ 80 := h7
 refine ⟨p93_ok h.k, p93_ok h.n, ?_, p93_ok h.d, ?_, p94_ok h.c, ?_, p94_ok h.a, ?_, p94_ok h.m, ?_, p95_ok h.v, ?_, p94_ok h.t, ?_⟩ <;> (try simp only [bsz]) <;> omega
theorem p29_ok {q : Req} (h : OkQ q) : p29 q := by
 obtain ⟨h1, h2, h3, h4, h5, h6, h7, h8⟩ := sizes_q h
 have h7' : (m95 ⟨q.value.kind, q.value.n, q.value.s⟩).size ≤ 80 := h7
 refine ⟨p96_ok h.k, p96_ok h.n, ?_, p96_ok h.d, ?_, p97_ok h.c, ?_, p97_ok h.a, ?_, p97_ok h.m, ?_, p98_ok h.v, ?_, p97_ok h.t, ?_⟩ <;> (try simp only [bsz, m96_m93 h.k, m96_m93 h.n, m96_m93 h.d, m97_m94 h.c, m97_m94 h.a, m97_m94 h.m, m98_m95, m97_m94 h.t]) <;> omega
end Go.Av
namespace Go.Av
open Go Go.Hh
theorem byte_lt (x : ByteArray) (z : Int) : ∃ n : Nat, byteI x z = (n : Int) ∧ n < 256 := ⟨_, rfl, UInt8.toNat_lt _⟩
noncomputable def qB (c : Int) : List Int := F1.den .sb (m194 c)
theorem qB_ref : ∀ n : Nat, n < 256 → (bif (((n : Int) == 34) || ((n : Int) == 92)) then [92, (n : Int)] else bif ((decide ((n : Int) < 32)) || (decide ((n : Int) > 126))) then [92, 120, (m196 (arI .quo .u8 (n : Int) (16 : Int))), (m196 (n : Int))] else [(n : Int)]) = qB (n : Int) := by decide +kernel
theorem qB_len : ∀ n : Nat, n < 256 → (qB (n : Int)).length ≤ 4 := by decide +kernel
theorem qB_sh : ∀ n : Nat, n < 256 → (0 ≤ arI .shr .u8 (n : Int) 4 ∧ arI .shr .u8 (n : Int) 4 ≤ IntKind.wrap .u8 (arI .shr .u8 (n : Int) 4 + 1) ∧ IntKind.wrap .u8 (arI .shr .u8 (n : Int) 4 + 1) ≤ 16) ∧
    (0 ≤ arI .and .u8 (n : Int) 15 ∧ arI .and .u8 (n : Int) 15 ≤ IntKind.wrap .u8 (arI .and .u8 (n : Int) 15 + 1) ∧ IntKind.wrap .u8 (arI .and .u8 (n : Int) 15 + 1) ≤ 16) := by decide +kernel
theorem rem16 : ∀ n : Nat, n < 256 → (0 ≤ arI .rem .u8 (n : Int) 16 ∧ arI .rem .u8 (n : Int) 16 < 16) ∧ (0 ≤ arI .rem .u8 (arI .quo .u8 (n : Int) 16) 16 ∧ arI .rem .u8 (arI .quo .u8 (n : Int) 16) 16 < 16) := by decide +kernel
theorem str_sz {b : ByteArray} {a c : Option Int} : (strV b a c).size ≤ b.size := by
 cases a <;> cases c <;> simp only [strV, ByteArray.size_extract] <;> omega
theorem p194_ok {n : Nat} (h : n < 256) : p194 (n : Int) := by
 obtain ⟨h1, h2⟩ := qB_sh n h
 have e1 : ByteArray.size (⟨#[48, 49, 50, 51, 52, 53, 54, 55, 56, 57, 97, 98, 99, 100, 101, 102]⟩ : ByteArray) = 16 := rfl
 have e2 : ByteArray.size (⟨#[92, 120]⟩ : ByteArray) = 2 := rfl
 have e3 : ByteArray.size (⟨#[92]⟩ : ByteArray) = 1 := rfl
 refine ⟨fun _ => ?_, fun _ _ => ⟨?_, ?_, ?_, ?_⟩⟩
 ·rw [e3]
  show 1 + (bytesOf [(n : Int)]).size ≤ _
  rw [bytesOf_size]
  show 1 + 1 ≤ _
  omega
 ·rw [e1]
  exact h1
 ·rw [e2]
  have := str_sz (b := ⟨#[48, 49, 50, 51, 52, 53, 54, 55, 56, 57, 97, 98, 99, 100, 101, 102]⟩) (a := some (arI .shr .u8 (n : Int) 4)) (c := some (IntKind.wrap .u8 (arI .shr .u8 (n : Int) 4 + 1)))
  rw [e1] at this
  omega
 ·rw [e1]
  exact h2
 ·have a1 := str_sz (b := ⟨#[48, 49, 50, 51, 52, 53, 54, 55, 56, 57, 97, 98, 99, 100, 101, 102]⟩) (a := some (arI .shr .u8 (n : Int) 4)) (c := some (IntKind.wrap .u8 (arI .shr .u8 (n : Int) 4 + 1)))
  have a2 := str_sz (b := ⟨#[48, 49, 50, 51, 52, 53, 54, 55, 56, 57, 97, 98, 99, 100, 101, 102]⟩) (a := some (arI .and .u8 (n : Int) 15)) (c := some (IntKind.wrap .u8 (arI .and .u8 (n : Int) 15 + 1)))
  rw [e1] at a1 a2
  rw [bsz, e2]
  omega
def apL (f : Nat → List Int) : Nat → Nat → List Int
 | _, 0 => []
 | k, n + 1 => f k ++ apL f (k + 1) n
theorem ap_loop {R : Type} {f : Nat → List Int} {b : Nat → List Int → Step R (List Int)} : ∀ (n k : Nat) (a : List Int), (∀ i v, i < k + n → b i v = .nxt (v ++ f i)) → loopS b k n a = .inr (a ++ apL f k n)
 | 0, _, a, _ => by rw [apL, List.append_nil]; rfl
 | n + 1, k, a, h => by
  unfold loopS
  rw [h k a (by omega)]
  show loopS b (k + 1) n (a ++ f k) = _
  rw [ap_loop n (k + 1) (a ++ f k) (fun i v hi => h i v (by omega)), apL, List.append_assoc]
theorem sb34 : F1.den .sb (⟨#[34]⟩ : ByteArray) = [34] := rfl
noncomputable def quoteB (x : ByteArray) : ByteArray := bytesOf (([34] ++ apL (fun i => qB (byteI x (i : Int))) 0 x.size) ++ [34])
theorem m121_eq (x : ByteArray) : m121 x = quoteB x := by
 unfold m121 quoteB
 dsimp only
 rw [Int.toNat_natCast, sb34]
 show Sum.elim _ _ (loopS (fun (i4 : Nat) (c1 : List Int) => (Step.nxt (c1 ++ qB (byteI x (i4 : Int))) : Step ByteArray (List Int))) 0 x.size [34]) = _
 rw [ap_loop (f := fun i => qB (byteI x (i : Int))) x.size 0 [34] (fun i v _ => rfl)]
 rfl
theorem m124_eq (x : ByteArray) : m124 x = quoteB x := by
 unfold m124 quoteB
 dsimp only
 rw [Int.toNat_natCast, ap_loop (f := fun i => qB (byteI x (i : Int))) x.size 0 [34] (fun i v _ => ?_)]
 ·rfl
 ·obtain ⟨n, hn, h⟩ := byte_lt x (i : Int)
  have hq := qB_ref n h
  rw [hn]
  rw [← hq]
  cases (((n : Int) == 34) || ((n : Int) == 92)) with
  | true => rfl
  | false =>
   simp only [cond_false]
   cases ((decide ((n : Int) < 32)) || (decide ((n : Int) > 126))) <;> rfl
theorem p121_ok {x : ByteArray} (h : x.size ≤ 1000000) : p121 x := by
 have e34 : (F1.den .sb (⟨#[34]⟩ : ByteArray)).length = 1 := rfl
 refine ⟨⟨?_, ?_⟩, ⟨by omega, by omega⟩, fun i d => d.length ≤ 1 + 4 * i, ?_, fun i d hi hd => ?_, fun c hc => ?_⟩
 ·show 0 + 1 ≤ maxLen; unfold maxLen; omega
 ·show (0 + 1) * 1 ≤ _; omega
 ·show (F1.den .sb (⟨#[34]⟩ : ByteArray)).length ≤ 1 + 4 * 0; rw [e34]; omega
 ·obtain ⟨n, hn, hb⟩ := byte_lt x (i : Int)
  have hi : i < x.size := by rwa [Int.toNat_natCast] at hi
  have hd : d.length ≤ 1 + 4 * i := hd
  have hl : (F1.den .sb (m194 (byteI x (i : Int)))).length ≤ 4 := by rw [hn]; exact qB_len n hb
  refine ⟨by rw [hn]; exact p194_ok hb, ⟨?_, ?_⟩, ?_⟩
  ·show d.length + (F1.den .sb (m194 (byteI x (i : Int)))).length ≤ maxLen; unfold maxLen; omega
  ·show (d.length + (F1.den .sb (m194 (byteI x (i : Int)))).length) * 1 ≤ _; omega
  ·show (d ++ F1.den .sb (m194 (byteI x (i : Int)))).length ≤ 1 + 4 * (i + 1)
   rw [List.length_append]
   omega
 ·have hc : c.length ≤ 1 + 4 * Int.toNat (x.size : Int) := hc
  rw [Int.toNat_natCast] at hc
  refine ⟨?_, ?_⟩
  ·show c.length + 1 ≤ maxLen; unfold maxLen; omega
  ·show (c.length + 1) * 1 ≤ _; omega
theorem p196_ok {z : Int} (h : 0 ≤ arI .rem .u8 z 16 ∧ arI .rem .u8 z 16 < 16) : p196 z := h
theorem p124_ok {x : ByteArray} (h : x.size ≤ 1000000) : p124 x := by
 refine ⟨⟨by omega, by omega⟩, fun i d => d.length ≤ 1 + 4 * i, by show 1 ≤ 1 + 4 * 0; omega, fun i d hi hd => ?_, fun c hc => ?_⟩
 ·obtain ⟨n, hn, hb⟩ := byte_lt x (i : Int)
  have hi : i < x.size := by rwa [Int.toNat_natCast] at hi
  have hd : d.length ≤ 1 + 4 * i := hd
  obtain ⟨r1, r2⟩ := rem16 n hb
  have key : ∀ l : List Int, l.length ≤ 4 → (List.length d + List.length l ≤ maxLen ∧ (List.length d + List.length l) * 1 ≤ 140737488355328) ∧ (List.append d l).length ≤ 1 + 4 * (i + 1) := fun l hl => by
   refine ⟨⟨by unfold maxLen; omega, by omega⟩, ?_⟩
   show (d ++ l).length ≤ _
   rw [List.length_append]
   omega
  intro j1
  dsimp only
  refine ⟨fun _ => key _ (by simp), fun _ => ⟨fun _ => ⟨by rw [hn]; exact p196_ok r2, by rw [hn]; exact p196_ok r1, ?_⟩, fun _ => key _ (by simp)⟩⟩
  exact key _ (by simp)
 ·have hc : c.length ≤ 1 + 4 * Int.toNat (x.size : Int) := hc
  rw [Int.toNat_natCast] at hc
  refine ⟨?_, ?_⟩
  ·show c.length + 1 ≤ maxLen; unfold maxLen; omega
  ·show (c.length + 1) * 1 ≤ _; omega
theorem m51_m43 (v : Val) : m51 v = m43 v := by
 by_cases h : m119 v = 0
 ·have hc : vCheckM v = 0 := by rw [← m119_eq]; exact h
  unfold m51 m43
  rw [m119_m50, show (m119 v != 0) = false by simpa using h]
  rcases vcheck_cases hc with ⟨h1, h2, h3⟩ | ⟨h1, h2, h3, h4⟩ | ⟨h1, h2, h3⟩
  ·rw [h1]; rfl
  ·rcases h1 with h1 | h1 | h1 <;> rw [h1] <;> rfl
  ·rw [h1, m121_eq, m124_eq]; rfl
 ·unfold m51 m43
  rw [m119_m50, show (m119 v != 0) = true by simpa using h]
  rfl
theorem dec_sz (n : Int) : (m46 n).size ≤ 21 := decB_size n
theorem p43_ok {v : Val} (hn : I64 v.n) : p43 v := by
 have := dec_sz v.n
 have e35 : ByteArray.size (⟨#[35]⟩ : ByteArray) = 1 := rfl
 refine fun hc _ => ⟨fun _ => hn.p, fun _ => ⟨fun _ => ⟨hn.p, ?_⟩, fun _ h4 => ?_⟩⟩
 ·rw [e35]; omega
 ·have hc : vCheckM v = 0 := by rw [← m119_eq]; exact bz hc
  have := vcheck_size hc
  exact p121_ok (by omega)
theorem p51_ok {v : Val} (hn : I64 v.n) : p51 v := by
 have := decB_size v.n
 have e35 : ByteArray.size (⟨#[35]⟩ : ByteArray) = 1 := rfl
 refine fun hc _ _ => ⟨fun _ => hn.p, fun _ => ⟨fun _ => ⟨hn.p, ?_⟩, fun _ => ?_⟩⟩
 ·rw [e35]
  show 1 + (decB v.n).size ≤ _
  omega
 ·rw [m119_m50] at hc
  have hc : vCheckM v = 0 := by rw [← m119_eq]; exact bz hc
  have := vcheck_size hc
  exact p124_ok (by omega)
theorem apL_len {f : Nat → List Int} {c : Nat} : ∀ (n k : Nat), (∀ i, (f i).length ≤ c) → (apL f k n).length ≤ c * n
 | 0, _, _ => by simp [apL]
 | n + 1, k, h => by
  have h1 := h k
  have h2 := apL_len n (k + 1) h
  rw [apL, List.length_append, Nat.mul_succ]
  omega
theorem quote_size (x : ByteArray) : (quoteB x).size ≤ 4 * x.size + 2 := by
 unfold quoteB
 rw [bytesOf_size, List.length_append, List.length_append]
 have := apL_len (f := fun i => qB (byteI x (i : Int))) (c := 4) x.size 0 (fun i => by
  obtain ⟨n, hn, h⟩ := byte_lt x (i : Int)
  show (qB (byteI x (i : Int))).length ≤ 4
  rw [hn]
  exact qB_len n h)
 simp
 omega
theorem m43_size (v : Val) : (m43 v).size ≤ 250 := by
 by_cases h : m119 v = 0
 ·have hc : vCheckM v = 0 := by rw [← m119_eq]; exact h
  have hd := dec_sz v.n
  have hq := quote_size v.s
  have hs := vcheck_size hc
  unfold m43
  simp only [cond_eq_ite]
  repeat' split
  all_goals first
   | decide
   | omega
   | (rw [bsz]; show 1 + (m46 v.n).size ≤ 250; omega)
   | (rw [m121_eq]; omega)
 ·unfold m43
  rw [show (m119 v != 0) = true by simpa using h]
  exact Nat.zero_le _
end Go.Av
