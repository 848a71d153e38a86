/- Numbers as bytes: what is written and read, in plain arithmetic. Conditions: none. -/
import Derived.Test.YtnnlaccdendkpaaVRc
import Derived.Laws.BitsAllLaws
namespace Go.Proofs.Ytnnlaccdendkpaa
open Go Go.Av Go.Hh Go.Proofs
def vbF : Nat → Nat → List Nat
 | 0, u => [u]
 | f + 1, u => if u < 128 then [u] else (u % 128 + 128) :: vbF f (u / 128)
def unz (u : Nat) : Int := if u % 2 = 0 then ((u / 2 : Nat) : Int) else -1 - ((u / 2 : Nat) : Int)
theorem u64w (n : Int) : IntKind.u64.wrap n = n % 18446744073709551616 := by simp [IntKind.wrap, IntKind.bits, IntKind.signed]
theorem or_u64 (a b : Nat) (ha : a < 18446744073709551616) (hb : b < 18446744073709551616) : orI .u64 (a : Int) (b : Int) = ((a ||| b : Nat) : Int) := u64_or_nat a b ha hb
theorem and_u64 (a b : Nat) (ha : a < 18446744073709551616) (hb : b < 18446744073709551616) : andI .u64 (a : Int) (b : Int) = ((a &&& b : Nat) : Int) := u64_and_nat a b ha hb
theorem and_u8 (a b : Nat) (ha : a < 256) (hb : b < 256) : andI .u8 (a : Int) (b : Int) = ((a &&& b : Nat) : Int) := u8_and_nat a b ha hb
def vbs (u : Nat) : ByteArray := bytesOf ((vbF 9 u).map fun b : Nat => (b : Int))
end Go.Proofs.Ytnnlaccdendkpaa
