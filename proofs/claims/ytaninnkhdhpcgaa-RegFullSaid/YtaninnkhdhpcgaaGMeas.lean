/- How a loop's count falls; plain. -/
import Derived.Test.YtaninnkhdhpcgaaGNum
namespace Go.Proofs.Ytaninnkhdhpcgaa.P
open Go.RowKit Go.Proofs.YtaninnkhdhpcgaaW.PrintWords Go.Proofs.YtaninnkhdhpcgaaW.PrintLast
theorem meas_succ {L n : Nat} (h : n < L) (hs : n < 9223372036854775807) : L + 1 - (intOf (.int .i64 (wrap64 ((n : Int) + 1)))).toNat < L + 1 - (intOf (.int .i64 (n : Int))).toNat := by
  rw [wrap_succ n hs]
  show L + 1 - ((n + 1 : Nat) : Int).toNat < L + 1 - ((n : Nat) : Int).toNat
  omega
end Go.Proofs.Ytaninnkhdhpcgaa.P
