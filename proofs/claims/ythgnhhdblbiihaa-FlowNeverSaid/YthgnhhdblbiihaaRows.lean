/-
  No cell of these rows narrows 'for every input' (looked for: loops, veiled, ifaces, maps, wideKeys, modest, calm, conditions, laid).
  DERIVED. THE GIVEN ROWS OF THIS SEAT. 9 by the template 'for every input the law returns true; each argument reads behind the call as it read before'; 0 by the template 'total and deterministic' (their statements: YthgnhhdblbiihaaTotals.lean).
  GIVEN WITH THE SEED: the statements are not yours to turn. If you find one false, say at which input.
  Laid BY PROGRAM, IN A SANDBOX (cutbox-rows.mjs): the forced cells as the released guide's own fill.sh prints them over the translation d35797b7d0b4741d… (all of the seat's roots in one cut). By AI agents, Wed Nov 11 2026. No macro, syntax, notation, axiom, sorry.
-/
import Derived.Test.YthgnhhdblbiihaaChecked
import GoSem.Claim
import GoSem.ClaimJoined
import GoSem.ClaimMapViews
import Derived.JoinedTies
import Derived.KernelRfl
namespace Go.Proofs.Ythgnhhdblbiihaa
/- THE CELL 'sum', in the pinned program and in every row, IS THE sha256 OF THE DUMP (.gsa) THAT YthgnhhdblbiihaaProg.lean LOADS. Nothing in Lean hashes anything: it is a label: what it is worth is what the hold of that sum in a sandbox is worth. -/
noncomputable def Try.pinned : Pinned := { name := "ythgnhhdblbiihaa", sum := "d35797b7d0b4741d3e6e555ad2ffbdd35c80711c0eff1b12c9c58d71453ecd02", checked := Try.checked }
namespace Rows
def none {H : Type} : Left H := { results := [], args := [] }

/-- 'signalboxlaw40.GuardSeals': WHATEVER THE INPUT: true; the input reads as it did. -/
def guardSealsSpec : ChangeSpec := { name := "guardSeals", fn := fun _ => fun
  | [d1, d2, d3, d4] => { results := [.lit (.bool true)], args := [d1, d2, d3, d4] }
  | _ => none }
def guardSealsRow : OpenClaim := { program := "ythgnhhdblbiihaa", sum := "d35797b7d0b4741d3e6e555ad2ffbdd35c80711c0eff1b12c9c58d71453ecd02", func := "signalbox/signalboxlaw40.GuardSeals", spec := "guardSeals", inPlace := ["internal/abi.NoEscape"], unfollowed := true, recurses := true, apart := false }
def GuardSealsSaid : Prop := guardSealsRow.holds Try.pinned (OpenSpec.ofChange guardSealsSpec)

/-- ITS FALSE NEIGHBOUR: 'it returns false'. Refute it at one input. -/
def guardSealsWrong : ChangeSpec := { name := "guardSeals", fn := fun _ => fun
  | [d1, d2, d3, d4] => { results := [.lit (.bool false)], args := [d1, d2, d3, d4] }
  | _ => none }
def GuardSealsWrongFalsely : Prop := guardSealsRow.holds Try.pinned (OpenSpec.ofChange guardSealsWrong)

/-- 'signalboxlaw40.GuardOpens': WHATEVER THE INPUT: true; the input reads as it did. -/
def guardOpensSpec : ChangeSpec := { name := "guardOpens", fn := fun _ => fun
  | [d1, d2] => { results := [.lit (.bool true)], args := [d1, d2] }
  | _ => none }
def guardOpensRow : OpenClaim := { program := "ythgnhhdblbiihaa", sum := "d35797b7d0b4741d3e6e555ad2ffbdd35c80711c0eff1b12c9c58d71453ecd02", func := "signalbox/signalboxlaw40.GuardOpens", spec := "guardOpens", inPlace := ["internal/abi.NoEscape"], unfollowed := true, recurses := true, apart := false }
def GuardOpensSaid : Prop := guardOpensRow.holds Try.pinned (OpenSpec.ofChange guardOpensSpec)

/-- ITS FALSE NEIGHBOUR: 'it returns false'. Refute it at one input. -/
def guardOpensWrong : ChangeSpec := { name := "guardOpens", fn := fun _ => fun
  | [d1, d2] => { results := [.lit (.bool false)], args := [d1, d2] }
  | _ => none }
def GuardOpensWrongFalsely : Prop := guardOpensRow.holds Try.pinned (OpenSpec.ofChange guardOpensWrong)

/-- 'signalboxlaw40.GuardFinds': WHATEVER THE INPUT: true; the input reads as it did. -/
def guardFindsSpec : ChangeSpec := { name := "guardFinds", fn := fun _ => fun
  | [d1, d2, d3, d4, d5] => { results := [.lit (.bool true)], args := [d1, d2, d3, d4, d5] }
  | _ => none }
def guardFindsRow : OpenClaim := { program := "ythgnhhdblbiihaa", sum := "d35797b7d0b4741d3e6e555ad2ffbdd35c80711c0eff1b12c9c58d71453ecd02", func := "signalbox/signalboxlaw40.GuardFinds", spec := "guardFinds", inPlace := ["internal/abi.NoEscape"], unfollowed := true, recurses := true, apart := false }
def GuardFindsSaid : Prop := guardFindsRow.holds Try.pinned (OpenSpec.ofChange guardFindsSpec)

/-- ITS FALSE NEIGHBOUR: 'it returns false'. Refute it at one input. -/
def guardFindsWrong : ChangeSpec := { name := "guardFinds", fn := fun _ => fun
  | [d1, d2, d3, d4, d5] => { results := [.lit (.bool false)], args := [d1, d2, d3, d4, d5] }
  | _ => none }
def GuardFindsWrongFalsely : Prop := guardFindsRow.holds Try.pinned (OpenSpec.ofChange guardFindsWrong)

/-- 'signalboxlaw40.GuardRow': WHATEVER THE INPUT: true; the input reads as it did. -/
def guardRowSpec : ChangeSpec := { name := "guardRow", fn := fun _ => fun
  | [d1, d2, d3] => { results := [.lit (.bool true)], args := [d1, d2, d3] }
  | _ => none }
def guardRowRow : OpenClaim := { program := "ythgnhhdblbiihaa", sum := "d35797b7d0b4741d3e6e555ad2ffbdd35c80711c0eff1b12c9c58d71453ecd02", func := "signalbox/signalboxlaw40.GuardRow", spec := "guardRow", inPlace := ["internal/abi.NoEscape"], unfollowed := true, recurses := true, apart := false }
def GuardRowSaid : Prop := guardRowRow.holds Try.pinned (OpenSpec.ofChange guardRowSpec)

/-- ITS FALSE NEIGHBOUR: 'it returns false'. Refute it at one input. -/
def guardRowWrong : ChangeSpec := { name := "guardRow", fn := fun _ => fun
  | [d1, d2, d3] => { results := [.lit (.bool false)], args := [d1, d2, d3] }
  | _ => none }
def GuardRowWrongFalsely : Prop := guardRowRow.holds Try.pinned (OpenSpec.ofChange guardRowWrong)

/-- 'signalboxlaw40.GuardTakes': WHATEVER THE INPUT: true; the input reads as it did. -/
def guardTakesSpec : ChangeSpec := { name := "guardTakes", fn := fun _ => fun
  | [d1, d2, d3] => { results := [.lit (.bool true)], args := [d1, d2, d3] }
  | _ => none }
def guardTakesRow : OpenClaim := { program := "ythgnhhdblbiihaa", sum := "d35797b7d0b4741d3e6e555ad2ffbdd35c80711c0eff1b12c9c58d71453ecd02", func := "signalbox/signalboxlaw40.GuardTakes", spec := "guardTakes", inPlace := ["internal/abi.NoEscape"], unfollowed := true, recurses := true, apart := false }
def GuardTakesSaid : Prop := guardTakesRow.holds Try.pinned (OpenSpec.ofChange guardTakesSpec)

/-- ITS FALSE NEIGHBOUR: 'it returns false'. Refute it at one input. -/
def guardTakesWrong : ChangeSpec := { name := "guardTakes", fn := fun _ => fun
  | [d1, d2, d3] => { results := [.lit (.bool false)], args := [d1, d2, d3] }
  | _ => none }
def GuardTakesWrongFalsely : Prop := guardTakesRow.holds Try.pinned (OpenSpec.ofChange guardTakesWrong)

/-- 'signalboxlaw40.GuardNil': WHATEVER THE INPUT: true; the input reads as it did. -/
def guardNilSpec : ChangeSpec := { name := "guardNil", fn := fun _ => fun
  | [d1, d2] => { results := [.lit (.bool true)], args := [d1, d2] }
  | _ => none }
def guardNilRow : OpenClaim := { program := "ythgnhhdblbiihaa", sum := "d35797b7d0b4741d3e6e555ad2ffbdd35c80711c0eff1b12c9c58d71453ecd02", func := "signalbox/signalboxlaw40.GuardNil", spec := "guardNil", inPlace := ["internal/abi.NoEscape"], unfollowed := true, recurses := true, apart := false }
def GuardNilSaid : Prop := guardNilRow.holds Try.pinned (OpenSpec.ofChange guardNilSpec)

/-- ITS FALSE NEIGHBOUR: 'it returns false'. Refute it at one input. -/
def guardNilWrong : ChangeSpec := { name := "guardNil", fn := fun _ => fun
  | [d1, d2] => { results := [.lit (.bool false)], args := [d1, d2] }
  | _ => none }
def GuardNilWrongFalsely : Prop := guardNilRow.holds Try.pinned (OpenSpec.ofChange guardNilWrong)

/-- 'signalboxlaw36.FlowCarries': WHATEVER THE INPUT: true; the input reads as it did. -/
def flowCarriesSpec : ChangeSpec := { name := "flowCarries", fn := fun _ => fun
  | [d1, d2, d3, d4] => { results := [.lit (.bool true)], args := [d1, d2, d3, d4] }
  | _ => none }
def flowCarriesRow : OpenClaim := { program := "ythgnhhdblbiihaa", sum := "d35797b7d0b4741d3e6e555ad2ffbdd35c80711c0eff1b12c9c58d71453ecd02", func := "signalbox/signalboxlaw36.FlowCarries", spec := "flowCarries", unfollowed := true, recurses := true, apart := false }
def FlowCarriesSaid : Prop := flowCarriesRow.holds Try.pinned (OpenSpec.ofChange flowCarriesSpec)

/-- ITS FALSE NEIGHBOUR: 'it returns false'. Refute it at one input. -/
def flowCarriesWrong : ChangeSpec := { name := "flowCarries", fn := fun _ => fun
  | [d1, d2, d3, d4] => { results := [.lit (.bool false)], args := [d1, d2, d3, d4] }
  | _ => none }
def FlowCarriesWrongFalsely : Prop := flowCarriesRow.holds Try.pinned (OpenSpec.ofChange flowCarriesWrong)

/-- 'signalboxlaw36.FlowNever': WHATEVER THE INPUT: true; the input reads as it did. -/
def flowNeverSpec : ChangeSpec := { name := "flowNever", fn := fun _ => fun
  | [d1, d2, d3, d4] => { results := [.lit (.bool true)], args := [d1, d2, d3, d4] }
  | _ => none }
def flowNeverRow : OpenClaim := { program := "ythgnhhdblbiihaa", sum := "d35797b7d0b4741d3e6e555ad2ffbdd35c80711c0eff1b12c9c58d71453ecd02", func := "signalbox/signalboxlaw36.FlowNever", spec := "flowNever", unfollowed := true, recurses := true, apart := false }
def FlowNeverSaid : Prop := flowNeverRow.holds Try.pinned (OpenSpec.ofChange flowNeverSpec)

/-- ITS FALSE NEIGHBOUR: 'it returns false'. Refute it at one input. -/
def flowNeverWrong : ChangeSpec := { name := "flowNever", fn := fun _ => fun
  | [d1, d2, d3, d4] => { results := [.lit (.bool false)], args := [d1, d2, d3, d4] }
  | _ => none }
def FlowNeverWrongFalsely : Prop := flowNeverRow.holds Try.pinned (OpenSpec.ofChange flowNeverWrong)

/-- 'signalboxlaw36.FlowNil': WHATEVER THE INPUT: true; the input reads as it did. -/
def flowNilSpec : ChangeSpec := { name := "flowNil", fn := fun _ => fun
  | [d1, d2] => { results := [.lit (.bool true)], args := [d1, d2] }
  | _ => none }
def flowNilRow : OpenClaim := { program := "ythgnhhdblbiihaa", sum := "d35797b7d0b4741d3e6e555ad2ffbdd35c80711c0eff1b12c9c58d71453ecd02", func := "signalbox/signalboxlaw36.FlowNil", spec := "flowNil", unfollowed := true, recurses := true, apart := false }
def FlowNilSaid : Prop := flowNilRow.holds Try.pinned (OpenSpec.ofChange flowNilSpec)

/-- ITS FALSE NEIGHBOUR: 'it returns false'. Refute it at one input. -/
def flowNilWrong : ChangeSpec := { name := "flowNil", fn := fun _ => fun
  | [d1, d2] => { results := [.lit (.bool false)], args := [d1, d2] }
  | _ => none }
def FlowNilWrongFalsely : Prop := flowNilRow.holds Try.pinned (OpenSpec.ofChange flowNilWrong)

/- THE SECOND FORM. 'bulk': how many values and letters a reading holds, each counted each time it is reached (what is shared counts as often as it is met; a slice's spare places count too). A statement '..UptoSaid' is the law's where the arguments, and the package variables that the reading takes, are together of bulk at most 1048576: NARROWER than '..Said'. Prove '..Said' where nothing that the law and all that it calls make is longer than what came in: it says more and counts as full. Else prove '..UptoSaid'. A law counts once. -/
mutual
def uptoBulk {H : Type} : DataW H → Nat
  | .lit (.string bytes) => bytes.length + 1
  | .lit _ => 1
  | .nil => 1
  | .ptr d => uptoBulk d + 1
  | .slice elems spare => uptoBulkAll elems + uptoBulkAll spare + 1
  | .agg parts => uptoBulkAll parts + 1
  | .iface _ d => uptoBulk d + 1
  | .map entries => uptoBulkEntries entries + 1
  | .held _ => 1
def uptoBulkAll {H : Type} : List (DataW H) → Nat
  | [] => 0
  | d :: r => uptoBulk d + uptoBulkAll r
def uptoBulkEntries {H : Type} : List (Lit × DataW H) → Nat
  | [] => 0
  | x :: r => uptoBulkEntry x + uptoBulkEntries r
def uptoBulkEntry {H : Type} : Lit × DataW H → Nat
  | (.string bytes, d) => bytes.length + uptoBulk d + 1
  | (_, d) => uptoBulk d + 1
 end
def uptoSmall : (H : Type) → List (DataW H) → Bool := fun _ ds => decide (uptoBulkAll ds ≤ 1048576)
def OpenSpec.upto (s : _root_.Go.ChangeSpec) : _root_.Go.OpenSpec := { _root_.Go.OpenSpec.ofChange s with cond := some uptoSmall }

/-- 'signalboxlaw40.GuardSeals', WHERE WHAT IT READS IS OF BULK AT MOST 1048576: true; the input reads as it did. -/
def guardSealsUptoRow : OpenClaim := { program := "ythgnhhdblbiihaa", sum := "d35797b7d0b4741d3e6e555ad2ffbdd35c80711c0eff1b12c9c58d71453ecd02", func := "signalbox/signalboxlaw40.GuardSeals", spec := "guardSeals", inPlace := ["internal/abi.NoEscape"], unfollowed := true, recurses := true, apart := false, narrowed := true }
def GuardSealsUptoSaid : Prop := guardSealsUptoRow.holds Try.pinned (OpenSpec.upto guardSealsSpec)

/-- 'signalboxlaw40.GuardOpens', WHERE WHAT IT READS IS OF BULK AT MOST 1048576: true; the input reads as it did. -/
def guardOpensUptoRow : OpenClaim := { program := "ythgnhhdblbiihaa", sum := "d35797b7d0b4741d3e6e555ad2ffbdd35c80711c0eff1b12c9c58d71453ecd02", func := "signalbox/signalboxlaw40.GuardOpens", spec := "guardOpens", inPlace := ["internal/abi.NoEscape"], unfollowed := true, recurses := true, apart := false, narrowed := true }
def GuardOpensUptoSaid : Prop := guardOpensUptoRow.holds Try.pinned (OpenSpec.upto guardOpensSpec)

/-- 'signalboxlaw40.GuardFinds', WHERE WHAT IT READS IS OF BULK AT MOST 1048576: true; the input reads as it did. -/
def guardFindsUptoRow : OpenClaim := { program := "ythgnhhdblbiihaa", sum := "d35797b7d0b4741d3e6e555ad2ffbdd35c80711c0eff1b12c9c58d71453ecd02", func := "signalbox/signalboxlaw40.GuardFinds", spec := "guardFinds", inPlace := ["internal/abi.NoEscape"], unfollowed := true, recurses := true, apart := false, narrowed := true }
def GuardFindsUptoSaid : Prop := guardFindsUptoRow.holds Try.pinned (OpenSpec.upto guardFindsSpec)

/-- 'signalboxlaw40.GuardRow', WHERE WHAT IT READS IS OF BULK AT MOST 1048576: true; the input reads as it did. -/
def guardRowUptoRow : OpenClaim := { program := "ythgnhhdblbiihaa", sum := "d35797b7d0b4741d3e6e555ad2ffbdd35c80711c0eff1b12c9c58d71453ecd02", func := "signalbox/signalboxlaw40.GuardRow", spec := "guardRow", inPlace := ["internal/abi.NoEscape"], unfollowed := true, recurses := true, apart := false, narrowed := true }
def GuardRowUptoSaid : Prop := guardRowUptoRow.holds Try.pinned (OpenSpec.upto guardRowSpec)

/-- 'signalboxlaw40.GuardTakes', WHERE WHAT IT READS IS OF BULK AT MOST 1048576: true; the input reads as it did. -/
def guardTakesUptoRow : OpenClaim := { program := "ythgnhhdblbiihaa", sum := "d35797b7d0b4741d3e6e555ad2ffbdd35c80711c0eff1b12c9c58d71453ecd02", func := "signalbox/signalboxlaw40.GuardTakes", spec := "guardTakes", inPlace := ["internal/abi.NoEscape"], unfollowed := true, recurses := true, apart := false, narrowed := true }
def GuardTakesUptoSaid : Prop := guardTakesUptoRow.holds Try.pinned (OpenSpec.upto guardTakesSpec)

/-- 'signalboxlaw40.GuardNil', WHERE WHAT IT READS IS OF BULK AT MOST 1048576: true; the input reads as it did. -/
def guardNilUptoRow : OpenClaim := { program := "ythgnhhdblbiihaa", sum := "d35797b7d0b4741d3e6e555ad2ffbdd35c80711c0eff1b12c9c58d71453ecd02", func := "signalbox/signalboxlaw40.GuardNil", spec := "guardNil", inPlace := ["internal/abi.NoEscape"], unfollowed := true, recurses := true, apart := false, narrowed := true }
def GuardNilUptoSaid : Prop := guardNilUptoRow.holds Try.pinned (OpenSpec.upto guardNilSpec)

/-- 'signalboxlaw36.FlowCarries', WHERE WHAT IT READS IS OF BULK AT MOST 1048576: true; the input reads as it did. -/
def flowCarriesUptoRow : OpenClaim := { program := "ythgnhhdblbiihaa", sum := "d35797b7d0b4741d3e6e555ad2ffbdd35c80711c0eff1b12c9c58d71453ecd02", func := "signalbox/signalboxlaw36.FlowCarries", spec := "flowCarries", unfollowed := true, recurses := true, apart := false, narrowed := true }
def FlowCarriesUptoSaid : Prop := flowCarriesUptoRow.holds Try.pinned (OpenSpec.upto flowCarriesSpec)

/-- 'signalboxlaw36.FlowNever', WHERE WHAT IT READS IS OF BULK AT MOST 1048576: true; the input reads as it did. -/
def flowNeverUptoRow : OpenClaim := { program := "ythgnhhdblbiihaa", sum := "d35797b7d0b4741d3e6e555ad2ffbdd35c80711c0eff1b12c9c58d71453ecd02", func := "signalbox/signalboxlaw36.FlowNever", spec := "flowNever", unfollowed := true, recurses := true, apart := false, narrowed := true }
def FlowNeverUptoSaid : Prop := flowNeverUptoRow.holds Try.pinned (OpenSpec.upto flowNeverSpec)

/-- 'signalboxlaw36.FlowNil', WHERE WHAT IT READS IS OF BULK AT MOST 1048576: true; the input reads as it did. -/
def flowNilUptoRow : OpenClaim := { program := "ythgnhhdblbiihaa", sum := "d35797b7d0b4741d3e6e555ad2ffbdd35c80711c0eff1b12c9c58d71453ecd02", func := "signalbox/signalboxlaw36.FlowNil", spec := "flowNil", unfollowed := true, recurses := true, apart := false, narrowed := true }
def FlowNilUptoSaid : Prop := flowNilUptoRow.holds Try.pinned (OpenSpec.upto flowNilSpec)

end Rows
end Go.Proofs.Ythgnhhdblbiihaa
