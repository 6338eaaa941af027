/- Printed for this claim by a program of the session (wip/gp.py, which drives the kit's printer): a Go function as a plain Lean function, and that its call answers it, wherever that function answers; no other conditions. -/
import Derived.Test.YtfdandgcnocklaaProg
import Derived.Below
import Derived.Deep.Draws
import Derived.Deep.AppendLies
import Derived.Maps.AppendAt
import Derived.OwnWalk
import Derived.Laws.BytesArg
import Derived.Laws.MakeOwn
import Derived.Laws.OwnMore
import Derived.Deep.OwnRows
import Derived.Tactics
import Derived.Lib.ConvBytes
import Derived.Laws.Slices
import Derived.WalkKit
import Derived.KernelRfl
import Derived.RowKit3
import Derived.Deep.LoopGhost
import Derived.Deep.QuietTactic
import Derived.BigQuiet
import Derived.WideLaws
import Derived.Deep.DeepCutAuto
import Derived.Deep.CutBlock
import Derived.Deep.RegionHeld3
import Derived.Laws.Rows
import Derived.Lib.AppendStr
import Derived.ArgAppend
import Derived.Laws.IdiomCopy
import Derived.OrdersHeld
import Derived.Laws.BitsLemmas
import Derived.RowKit
import Derived.Test.YtfdandgcnocklaaWWords
import Derived.Test.YtfdandgcnocklaaWLast
import Derived.Test.YtfdandgcnocklaaWTab
import Derived.Test.YtfdandgcnocklaaWFour
import Derived.Test.YtfdandgcnocklaaWQPut
import Derived.Test.YtfdandgcnocklaaWApart
import Derived.Test.YtfdandgcnocklaaWArr
import Derived.Test.YtfdandgcnocklaaWZeros
import Derived.Test.YtfdandgcnocklaaWFoot
import Derived.Test.YtfdandgcnocklaaWKept
import Derived.Test.YtfdandgcnocklaaWShare
import Derived.Test.YtfdandgcnocklaaWN
import Derived.Test.YtfdandgcnocklaaWFootNe
import Derived.Test.YtfdandgcnocklaaWAt
import Derived.Test.YtfdandgcnocklaaWEqStruct
import Derived.Test.YtfdandgcnocklaaWRepsOne
import Derived.Test.YtfdandgcnocklaaWInv
import Derived.Test.YtfdandgcnocklaaWInvWords
import Derived.Test.YtfdandgcnocklaaWGuard
import Derived.Test.YtfdandgcnocklaaWNEv
import Derived.Test.YtfdandgcnocklaaWMore
namespace Go.Proofs.Ytfdandgcnocklaa.P
open Go.RowKit Go.Proofs.YtfdandgcnocklaaW.PrintWords Go.Proofs.YtfdandgcnocklaaW.PrintLast Go.Proofs.YtfdandgcnocklaaW.PrintMore
attribute [local go_sem] max2_int min2_int max_two min_two max_three min_three max_four min_four   -- for this text's walks alone
set_option linter.unusedVariables false
set_option linter.unusedSimpArgs false



def errW : Option Int → Value
  | none => .nilIface
  | some c => .iface 0 (.int .i64 c)
theorem errW_none : errW none = .nilIface := rfl
theorem errW_some (c : Int) : errW (some c) = .iface 0 (.int .i64 c) := rfl

theorem info3 : (Try.prog.info? 3).map (fun i => (i.zero, i.size, i.bytes)) = some (some (.int .i64 0), 1, 8) := by kernel_rfl
theorem info9 : (Try.prog.info? 9).map (fun i => (i.zero, i.size, i.bytes)) = some (some (.string ⟨#[]⟩), 1, 16) := by kernel_rfl
-- the values' own types

end Go.Proofs.Ytfdandgcnocklaa.P
