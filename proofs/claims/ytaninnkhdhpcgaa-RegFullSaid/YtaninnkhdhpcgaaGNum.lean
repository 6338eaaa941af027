/- Wraps of small numbers, a byte of a text; no conditions beyond the range. -/
import Derived.Test.YtaninnkhdhpcgaaP0
namespace Go.Proofs.Ytaninnkhdhpcgaa.P
open Go.RowKit Go.Proofs.YtaninnkhdhpcgaaW.PrintWords

theorem bt_nat (s : ByteArray) (i : Nat) (h : i < s.size) : bt s (i : Int) = (s[i].toNat : Int) := by
  unfold bt
  simp [h]
theorem w64_small (x : Int) (h0 : -4611686018427387904 ≤ x) (h1 : x ≤ 4611686018427387904) : wrap64 x = x := by
  unfold wrap64; omega
theorem wrap_succ (i : Nat) (h : i < 9223372036854775807) : wrap64 ((i : Int) + 1) = ((i + 1 : Nat) : Int) := by
  unfold wrap64; omega
end Go.Proofs.Ytaninnkhdhpcgaa.P
