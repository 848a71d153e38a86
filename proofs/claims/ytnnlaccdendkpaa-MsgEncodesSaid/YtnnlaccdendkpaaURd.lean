/- Numbers as bytes: what is written and read, in plain arithmetic. Conditions: none. -/
import Derived.Test.YtnnlaccdendkpaaURc
import Derived.Laws.BitsAllLaws
namespace Go.Proofs.Ytnnlaccdendkpaa
open Go Go.Av Go.Hh Go.Proofs
def vbF : Nat → Nat → List Nat
 | 0, u => [u]
 | f + 1, u => if u < 128 then [u] else (u % 128 + 128) :: vbF f (u / 128)
def zig (n : Int) : Nat := if 0 ≤ n then (2 * n).toNat else (-2 * n - 1).toNat
def I64 (n : Int) : Prop := -9223372036854775808 ≤ n ∧ n < 9223372036854775808
theorem zig_lt {n : Int} (h : I64 n) : zig n < 18446744073709551616 := by
 unfold I64 at h
 unfold zig
 split <;> omega
theorem u64w (n : Int) : IntKind.u64.wrap n = n % 18446744073709551616 := by simp [IntKind.wrap, IntKind.bits, IntKind.signed]
theorem xor_u64 (a b : Nat) (ha : a < 18446744073709551616) (hb : b < 18446744073709551616) : xorI .u64 (a : Int) (b : Int) = ((a ^^^ b : Nat) : Int) := u64_xor_nat a b ha hb
theorem or_u8 (a b : Nat) (ha : a < 256) (hb : b < 256) : orI .u8 (a : Int) (b : Int) = ((a ||| b : Nat) : Int) := u8_or_nat a b ha hb
theorem xor_ones (a : Nat) (ha : a < 18446744073709551616) : a ^^^ 18446744073709551615 = 18446744073709551615 - a := by
 have h : (BitVec.ofNat 64 a ^^^ BitVec.allOnes 64) = ~~~(BitVec.ofNat 64 a) := by rw [BitVec.xor_allOnes]
 have h2 := congrArg BitVec.toNat h
 rw [BitVec.toNat_not, BitVec.toNat_xor, BitVec.toNat_ofNat, BitVec.toNat_allOnes, Nat.mod_eq_of_lt ha] at h2
 exact h2
theorem wint_u {n : Int} (h : I64 n) : xorI .u64 (IntKind.u64.wrap (IntKind.u64.wrap n * 2)) (IntKind.u64.wrap (n.fdiv 9223372036854775808)) = ((zig n : Nat) : Int) := by
 obtain ⟨h1, h2⟩ := h
 rw [u64w, u64w, u64w, Int.fdiv_eq_ediv_of_nonneg _ (by decide)]
 by_cases hn : 0 ≤ n
 ·have e1 : n % 18446744073709551616 * 2 % 18446744073709551616 = ((zig n : Nat) : Int) := by unfold zig; rw [if_pos hn]; omega
  have e2 : n / 9223372036854775808 % 18446744073709551616 = ((0 : Nat) : Int) := by omega
  rw [e1, e2, xor_u64 _ _ (zig_lt ⟨h1, h2⟩) (by decide), Nat.xor_zero]
 ·have e1 : n % 18446744073709551616 * 2 % 18446744073709551616 = ((18446744073709551615 - zig n : Nat) : Int) := by unfold zig; rw [if_neg hn]; omega
  have e2 : n / 9223372036854775808 % 18446744073709551616 = ((18446744073709551615 : Nat) : Int) := by omega
  have hz := zig_lt ⟨h1, h2⟩
  rw [e1, e2, xor_u64 _ _ (by omega) (by decide), xor_ones _ (by omega)]
  omega
theorem rwint_u {n : Int} (h : I64 n) : (bif decide (n < 0) then xorI .u64 18446744073709551615 (IntKind.u64.wrap (IntKind.u64.wrap n * 2)) else IntKind.u64.wrap (IntKind.u64.wrap n * 2)) = ((zig n : Nat) : Int) := by
 obtain ⟨h1, h2⟩ := h
 rw [u64w, u64w]
 by_cases hn : 0 ≤ n
 ·have e0 : decide (n < 0) = false := decide_eq_false (by omega)
  rw [e0]
  show n % 18446744073709551616 * 2 % 18446744073709551616 = ((zig n : Nat) : Int)
  unfold zig; rw [if_pos hn]; omega
 ·have e0 : decide (n < 0) = true := decide_eq_true (by omega)
  have e1 : n % 18446744073709551616 * 2 % 18446744073709551616 = ((18446744073709551615 - zig n : Nat) : Int) := by unfold zig; rw [if_neg hn]; omega
  have hz := zig_lt ⟨h1, h2⟩
  rw [e0, cond_true, e1, show (18446744073709551615 : Int) = ((18446744073709551615 : Nat) : Int) from rfl, xor_u64 _ _ (by decide) (by omega), Nat.xor_comm, xor_ones _ (by omega)]
  omega
theorem or128 : ∀ a, a < 256 → a ||| 128 = a % 128 + 128 := by decide +kernel
theorem byte_up (u : Nat) : orI .u8 (IntKind.u8.wrap (u : Int)) 128 = ((u % 128 + 128 : Nat) : Int) := by
 have e : IntKind.u8.wrap (u : Int) = ((u % 256 : Nat) : Int) := by rw [IntKind.wrap_u8']; omega
 rw [e, show (128 : Int) = ((128 : Nat) : Int) from rfl, or_u8 _ _ (by omega) (by decide), or128 _ (by omega)]
 omega
theorem rbyte_up (u : Nat) : IntKind.u8.wrap (IntKind.u8.wrap ((u : Int).tmod 128) + 128) = ((u % 128 + 128 : Nat) : Int) := by
 rw [Int.tmod_eq_emod_of_nonneg (by omega), IntKind.wrap_u8', IntKind.wrap_u8']
 omega
theorem loopW_brk1 {R A : Type} {b : A → Step R A} {f : Nat} {x y : A} (h : b x = .brk y) : loopW b (f + 1) x = .inr y := by
 unfold loopW
 rw [h]
theorem loopW_nxt1 {R A : Type} {b : A → Step R A} {f : Nat} {x y : A} (h : b x = .nxt y) : loopW b (f + 1) x = loopW b f y := by
 conv => lhs; unfold loopW
 rw [h]
theorem wint_loop (n : Int) : ∀ (f u : Nat) (acc : List Int), u < 128 * 128 ^ f → ∃ (x : Nat) (l : List Int), loopW (wintM_B1 n) (f + 1) ((u : Int), acc) = .inr ((x : Int), acc ++ l) ∧ (vbF f u).map (fun b : Nat => (b : Int)) = l ++ [(x : Int)] ∧ x < 128
 | f, u, acc, h => by
  by_cases hu : u < 128
  ·have hb : wintM_B1 n ((u : Int), acc) = .brk ((u : Int), acc) := by
    unfold wintM_B1
    dsimp only
    rw [show decide ((u : Int) ≥ 128) = false from decide_eq_false (by omega)]
    rfl
   refine ⟨u, [], by rw [loopW_brk1 hb, List.append_nil], ?_, hu⟩
   cases f with
   | zero => rfl
   | succ f => unfold vbF; rw [if_pos hu]; rfl
  ·have hb : wintM_B1 n ((u : Int), acc) = .nxt (((u / 128 : Nat) : Int), acc ++ [((u % 128 + 128 : Nat) : Int)]) := by
    unfold wintM_B1
    dsimp only
    rw [show decide ((u : Int) ≥ 128) = true from decide_eq_true (by omega), cond_true]
    rw [byte_up, Int.fdiv_eq_ediv_of_nonneg _ (by decide), show (u : Int) / 128 = ((u / 128 : Nat) : Int) by omega]
   cases f with
   | zero => exact absurd h (by simpa using hu)
   | succ f =>
    have h2 : u / 128 < 128 * 128 ^ f := by
     rw [Nat.pow_succ] at h
     omega
    obtain ⟨x, l, e1, e2, e3⟩ := wint_loop n f (u / 128) (acc ++ [((u % 128 + 128 : Nat) : Int)]) h2
    refine ⟨x, ((u % 128 + 128 : Nat) : Int) :: l, ?_, ?_, e3⟩
    ·rw [loopW_nxt1 hb, e1, List.append_assoc, List.singleton_append]
    ·unfold vbF
     rw [if_neg hu, List.map_cons, e2, List.cons_append]
theorem rwint_loop (n : Int) : ∀ (f u : Nat) (acc : List Int), u < 128 * 128 ^ f → u < 18446744073709551616 → ∃ (x : Nat) (l : List Int), loopW (rwintM_B1 n) (f + 1) ((u : Int), acc) = .inr ((x : Int), acc ++ l) ∧ (vbF f u).map (fun b : Nat => (b : Int)) = l ++ [(x : Int)] ∧ x < 128
 | f, u, acc, h, h64 => by
  by_cases hu : u < 128
  ·have hb : rwintM_B1 n ((u : Int), acc) = .brk ((u : Int), acc) := by
    unfold rwintM_B1
    dsimp only
    rw [show decide ((u : Int) ≥ 128) = false from decide_eq_false (by omega)]
    rfl
   refine ⟨u, [], by rw [loopW_brk1 hb, List.append_nil], ?_, hu⟩
   cases f with
   | zero => rfl
   | succ f => unfold vbF; rw [if_pos hu]; rfl
  ·have hb : rwintM_B1 n ((u : Int), acc) = .nxt (((u / 128 : Nat) : Int), acc ++ [((u % 128 + 128 : Nat) : Int)]) := by
    unfold rwintM_B1
    dsimp only
    rw [show decide ((u : Int) ≥ 128) = true from decide_eq_true (by omega), cond_true]
    rw [rbyte_up, Int.tdiv_eq_ediv_of_nonneg (by omega), u64w, show (u : Int) / 128 % 18446744073709551616 = ((u / 128 : Nat) : Int) by omega]
   cases f with
   | zero => exact absurd h (by simpa using hu)
   | succ f =>
    have h2 : u / 128 < 128 * 128 ^ f := by
     rw [Nat.pow_succ] at h
     omega
    obtain ⟨x, l, e1, e2, e3⟩ := rwint_loop n f (u / 128) (acc ++ [((u % 128 + 128 : Nat) : Int)]) h2 (by omega)
    refine ⟨x, ((u % 128 + 128 : Nat) : Int) :: l, ?_, ?_, e3⟩
    ·rw [loopW_nxt1 hb, e1, List.append_assoc, List.singleton_append]
    ·unfold vbF
     rw [if_neg hu, List.map_cons, e2, List.cons_append]
def vbs (u : Nat) : ByteArray := bytesOf ((vbF 9 u).map fun b : Nat => (b : Int))
theorem wint_eq {n : Int} (h : I64 n) : wintM n = vbs (zig n) := by
 obtain ⟨x, l, e1, e2, e3⟩ := wint_loop n 9 (zig n) [] (Nat.lt_of_lt_of_le (zig_lt h) (by decide))
 unfold wintM wintM_L1 vbs
 rw [wint_u h]
 unfold loopV
 rw [e1, e2]
 show bytesOf (([] ++ l) ++ [IntKind.u8.wrap (x : Int)]) = _
 rw [List.nil_append, IntKind.wrap_u8', show (x : Int) % 256 = (x : Int) by omega]
theorem rwint_eq {n : Int} (h : I64 n) : rwintM n = vbs (zig n) := by
 obtain ⟨x, l, e1, e2, e3⟩ := rwint_loop n 9 (zig n) [] (Nat.lt_of_lt_of_le (zig_lt h) (by decide)) (zig_lt h)
 unfold rwintM rwintM_L1 vbs
 rw [rwint_u h]
 unfold loopV
 rw [e1, e2]
 show bytesOf (([] ++ l) ++ [IntKind.u8.wrap (x : Int)]) = _
 rw [List.nil_append, IntKind.wrap_u8', show (x : Int) % 256 = (x : Int) by omega]
end Go.Proofs.Ytnnlaccdendkpaa
