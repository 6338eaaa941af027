/- Bitwise operations of int at numbers that are not below nought are those of Nat; no conditions beyond the range. -/
import Derived.Test.YtbpjbnhhopohgaaP0
import Derived.Laws.BitsAllLaws
import Derived.Laws.BitsLemmas
namespace Go.Proofs.Ytbpjbnhhopohgaa.P
open Go.RowKit
theorem gb_ofInt (a : Nat) (ha : a < 9223372036854775808) : (BitVec.ofInt 64 (a : Int)).toNat = a := by
  rw [BitVec.ofInt_natCast, BitVec.toNat_ofNat]
  exact Nat.mod_eq_of_lt (by omega)
theorem gb_wrap (x : Nat) (hx : x < 9223372036854775808) : IntKind.i64.wrap (x : Int) = x := by
  rw [IntKind.wrap_i64]; omega
theorem bits_or (a b : Nat) (ha : a < 9223372036854775808) (hb : b < 9223372036854775808) : bits .or .i64 (a : Int) (b : Int) = ((a ||| b : Nat) : Int) := by
  have hx : a ||| b < 2 ^ 63 := Nat.or_lt_two_pow (by omega) (by omega)
  show IntKind.i64.wrap ((BitVec.ofInt 64 (a : Int) ||| BitVec.ofInt 64 (b : Int)).toNat : Int) = _
  rw [BitVec.toNat_or, gb_ofInt a ha, gb_ofInt b hb]
  exact gb_wrap _ (by omega)
theorem bits_and (a b : Nat) (ha : a < 9223372036854775808) (hb : b < 9223372036854775808) : bits .and .i64 (a : Int) (b : Int) = ((a &&& b : Nat) : Int) := by
  have hx : a &&& b < 2 ^ 63 := Nat.and_lt_two_pow _ (by omega)
  show IntKind.i64.wrap ((BitVec.ofInt 64 (a : Int) &&& BitVec.ofInt 64 (b : Int)).toNat : Int) = _
  rw [BitVec.toNat_and, gb_ofInt a ha, gb_ofInt b hb]
  exact gb_wrap _ (by omega)
theorem bits_xor (a b : Nat) (ha : a < 9223372036854775808) (hb : b < 9223372036854775808) : bits .xor .i64 (a : Int) (b : Int) = ((a ^^^ b : Nat) : Int) := by
  have hx : a ^^^ b < 2 ^ 63 := Nat.xor_lt_two_pow (by omega) (by omega)
  show IntKind.i64.wrap ((BitVec.ofInt 64 (a : Int) ^^^ BitVec.ofInt 64 (b : Int)).toNat : Int) = _
  rw [BitVec.toNat_xor, gb_ofInt a ha, gb_ofInt b hb]
  exact gb_wrap _ (by omega)
theorem bits_or_bit0 (n : Nat) (h : n < 4611686018427387904) : bits .or .i64 ((n : Int) * 2) 0 = ((2 * n : Nat) : Int) := by
  have := bits_or (2 * n) 0 (by omega) (by omega)
  rw [Nat.or_zero] at this
  rw [← this]
  congr 1
  omega
theorem bits_or_bit1 (n : Nat) (h : n < 4611686018427387904) : bits .or .i64 ((n : Int) * 2) 1 = ((2 * n + 1 : Nat) : Int) := by
  have := bits_or (2 * n) 1 (by omega) (by omega)
  rw [show 2 * n ||| 1 = 2 * n + 1 from by rw [← Nat.two_pow_add_eq_or_of_lt (i := 1) (b := 1) (by omega) n]] at this
  rw [← this]
  congr 1
  omega
theorem bits_and_one (n : Nat) (h : n < 9223372036854775808) : bits .and .i64 (n : Int) 1 = ((n % 2 : Nat) : Int) := by
  rw [show (1 : Int) = ((1 : Nat) : Int) from rfl, bits_and n 1 h (by omega), Nat.and_one_is_mod]
theorem bits_and_mask (n w : Nat) (h : n < 9223372036854775808) (hw : w ≤ 62) : bits .and .i64 (n : Int) ((2 : Int) ^ w - 1) = ((n % 2 ^ w : Nat) : Int) := by
  have hp : 2 ^ w ≤ 2 ^ 62 := Nat.pow_le_pow_right (by omega) hw
  have h1 : 1 ≤ 2 ^ w := Nat.one_le_two_pow
  rw [show ((2 : Int) ^ w - 1) = ((2 ^ w - 1 : Nat) : Int) from by push_cast [h1]; rfl, bits_and n (2 ^ w - 1) h (by omega), Nat.and_two_pow_sub_one_eq_mod]
end Go.Proofs.Ytbpjbnhhopohgaa.P
