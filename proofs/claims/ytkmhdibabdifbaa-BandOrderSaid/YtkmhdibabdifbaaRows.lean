/-
  No cell of these rows narrows 'for every input' (looked for: loops, veiled, ifaces, maps, wideKeys, modest, calm, conditions, laid).
  DERIVED. THE GIVEN ROWS OF THIS SEAT. 4 by the template 'for every input the law returns true; each argument reads behind the call as it read before'; 0 by the template 'total and deterministic' (their statements: YtkmhdibabdifbaaTotals.lean).
  GIVEN WITH THE SEED: the statements are not yours to turn. If you find one false, say at which input.
  Laid BY PROGRAM, IN A SANDBOX (cutbox-rows.mjs): the forced cells as the released guide's own fill.sh prints them over the translation 4e235100db04c8a2… (all of the seat's roots in one cut). By AI agents, Wed Nov 11 2026. No macro, syntax, notation, axiom, sorry.
-/
import Derived.Test.YtkmhdibabdifbaaChecked
import GoSem.Claim
import GoSem.ClaimJoined
import GoSem.ClaimMapViews
import Derived.JoinedTies
import Derived.KernelRfl
namespace Go.Proofs.Ytkmhdibabdifbaa
/- THE CELL 'sum', in the pinned program and in every row, IS THE sha256 OF THE DUMP (.gsa) THAT YtkmhdibabdifbaaProg.lean LOADS. Nothing in Lean hashes anything: it is a label: what it is worth is what the hold of that sum in a sandbox is worth. -/
noncomputable def Try.pinned : Pinned := { name := "ytkmhdibabdifbaa", sum := "4e235100db04c8a2e52a7050e068cca6ae59996cd21d7350bce417d747723eff", checked := Try.checked }
namespace Rows
def none {H : Type} : Left H := { results := [], args := [] }

/-- 'signalboxlaw15.BandOrder': WHATEVER THE INPUT: true; the input reads as it did. -/
def bandOrderSpec : ChangeSpec := { name := "bandOrder", fn := fun _ => fun
  | [d1, d2, d3] => { results := [.lit (.bool true)], args := [d1, d2, d3] }
  | _ => none }
def bandOrderRow : OpenClaim := { program := "ytkmhdibabdifbaa", sum := "4e235100db04c8a2e52a7050e068cca6ae59996cd21d7350bce417d747723eff", func := "signalbox/signalboxlaw15.BandOrder", spec := "bandOrder", apart := false }
def BandOrderSaid : Prop := bandOrderRow.holds Try.pinned (OpenSpec.ofChange bandOrderSpec)

/-- ITS FALSE NEIGHBOUR: 'it returns false'. Refute it at one input. -/
def bandOrderWrong : ChangeSpec := { name := "bandOrder", fn := fun _ => fun
  | [d1, d2, d3] => { results := [.lit (.bool false)], args := [d1, d2, d3] }
  | _ => none }
def BandOrderWrongFalsely : Prop := bandOrderRow.holds Try.pinned (OpenSpec.ofChange bandOrderWrong)

/-- 'signalboxlaw15.BandStopped': WHATEVER THE INPUT: true; the input reads as it did. -/
def bandStoppedSpec : ChangeSpec := { name := "bandStopped", fn := fun _ => fun
  | [d1, d2, d3, d4] => { results := [.lit (.bool true)], args := [d1, d2, d3, d4] }
  | _ => none }
def bandStoppedRow : OpenClaim := { program := "ytkmhdibabdifbaa", sum := "4e235100db04c8a2e52a7050e068cca6ae59996cd21d7350bce417d747723eff", func := "signalbox/signalboxlaw15.BandStopped", spec := "bandStopped", apart := false }
def BandStoppedSaid : Prop := bandStoppedRow.holds Try.pinned (OpenSpec.ofChange bandStoppedSpec)

/-- ITS FALSE NEIGHBOUR: 'it returns false'. Refute it at one input. -/
def bandStoppedWrong : ChangeSpec := { name := "bandStopped", fn := fun _ => fun
  | [d1, d2, d3, d4] => { results := [.lit (.bool false)], args := [d1, d2, d3, d4] }
  | _ => none }
def BandStoppedWrongFalsely : Prop := bandStoppedRow.holds Try.pinned (OpenSpec.ofChange bandStoppedWrong)

/-- 'signalboxlaw15.BandPlays': WHATEVER THE INPUT: true; the input reads as it did. -/
def bandPlaysSpec : ChangeSpec := { name := "bandPlays", fn := fun _ => fun
  | [d1, d2, d3] => { results := [.lit (.bool true)], args := [d1, d2, d3] }
  | _ => none }
def bandPlaysRow : OpenClaim := { program := "ytkmhdibabdifbaa", sum := "4e235100db04c8a2e52a7050e068cca6ae59996cd21d7350bce417d747723eff", func := "signalbox/signalboxlaw15.BandPlays", spec := "bandPlays", apart := false }
def BandPlaysSaid : Prop := bandPlaysRow.holds Try.pinned (OpenSpec.ofChange bandPlaysSpec)

/-- ITS FALSE NEIGHBOUR: 'it returns false'. Refute it at one input. -/
def bandPlaysWrong : ChangeSpec := { name := "bandPlays", fn := fun _ => fun
  | [d1, d2, d3] => { results := [.lit (.bool false)], args := [d1, d2, d3] }
  | _ => none }
def BandPlaysWrongFalsely : Prop := bandPlaysRow.holds Try.pinned (OpenSpec.ofChange bandPlaysWrong)

/-- 'signalboxlaw15.BandNil': WHATEVER THE INPUT: true; the input reads as it did. -/
def bandNilSpec : ChangeSpec := { name := "bandNil", fn := fun _ => fun
  | [d1, d2] => { results := [.lit (.bool true)], args := [d1, d2] }
  | _ => none }
def bandNilRow : OpenClaim := { program := "ytkmhdibabdifbaa", sum := "4e235100db04c8a2e52a7050e068cca6ae59996cd21d7350bce417d747723eff", func := "signalbox/signalboxlaw15.BandNil", spec := "bandNil", apart := false }
def BandNilSaid : Prop := bandNilRow.holds Try.pinned (OpenSpec.ofChange bandNilSpec)

/-- ITS FALSE NEIGHBOUR: 'it returns false'. Refute it at one input. -/
def bandNilWrong : ChangeSpec := { name := "bandNil", fn := fun _ => fun
  | [d1, d2] => { results := [.lit (.bool false)], args := [d1, d2] }
  | _ => none }
def BandNilWrongFalsely : Prop := bandNilRow.holds Try.pinned (OpenSpec.ofChange bandNilWrong)

/- THE SECOND FORM. 'bulk': how many values and letters a reading holds, each counted each time it is reached (what is shared counts as often as it is met; a slice's spare places count too). A statement '..UptoSaid' is the law's where the arguments, and the package variables that the reading takes, are together of bulk at most 1048576: NARROWER than '..Said'. Prove '..Said' where nothing that the law and all that it calls make is longer than what came in: it says more and counts as full. Else prove '..UptoSaid'. A law counts once. -/
mutual
def uptoBulk {H : Type} : DataW H → Nat
  | .lit (.string bytes) => bytes.length + 1
  | .lit _ => 1
  | .nil => 1
  | .ptr d => uptoBulk d + 1
  | .slice elems spare => uptoBulkAll elems + uptoBulkAll spare + 1
  | .agg parts => uptoBulkAll parts + 1
  | .iface _ d => uptoBulk d + 1
  | .map entries => uptoBulkEntries entries + 1
  | .held _ => 1
def uptoBulkAll {H : Type} : List (DataW H) → Nat
  | [] => 0
  | d :: r => uptoBulk d + uptoBulkAll r
def uptoBulkEntries {H : Type} : List (Lit × DataW H) → Nat
  | [] => 0
  | x :: r => uptoBulkEntry x + uptoBulkEntries r
def uptoBulkEntry {H : Type} : Lit × DataW H → Nat
  | (.string bytes, d) => bytes.length + uptoBulk d + 1
  | (_, d) => uptoBulk d + 1
 end
def uptoSmall : (H : Type) → List (DataW H) → Bool := fun _ ds => decide (uptoBulkAll ds ≤ 1048576)
def OpenSpec.upto (s : _root_.Go.ChangeSpec) : _root_.Go.OpenSpec := { _root_.Go.OpenSpec.ofChange s with cond := some uptoSmall }

/-- 'signalboxlaw15.BandOrder', WHERE WHAT IT READS IS OF BULK AT MOST 1048576: true; the input reads as it did. -/
def bandOrderUptoRow : OpenClaim := { program := "ytkmhdibabdifbaa", sum := "4e235100db04c8a2e52a7050e068cca6ae59996cd21d7350bce417d747723eff", func := "signalbox/signalboxlaw15.BandOrder", spec := "bandOrder", apart := false, narrowed := true }
def BandOrderUptoSaid : Prop := bandOrderUptoRow.holds Try.pinned (OpenSpec.upto bandOrderSpec)

/-- 'signalboxlaw15.BandStopped', WHERE WHAT IT READS IS OF BULK AT MOST 1048576: true; the input reads as it did. -/
def bandStoppedUptoRow : OpenClaim := { program := "ytkmhdibabdifbaa", sum := "4e235100db04c8a2e52a7050e068cca6ae59996cd21d7350bce417d747723eff", func := "signalbox/signalboxlaw15.BandStopped", spec := "bandStopped", apart := false, narrowed := true }
def BandStoppedUptoSaid : Prop := bandStoppedUptoRow.holds Try.pinned (OpenSpec.upto bandStoppedSpec)

/-- 'signalboxlaw15.BandPlays', WHERE WHAT IT READS IS OF BULK AT MOST 1048576: true; the input reads as it did. -/
def bandPlaysUptoRow : OpenClaim := { program := "ytkmhdibabdifbaa", sum := "4e235100db04c8a2e52a7050e068cca6ae59996cd21d7350bce417d747723eff", func := "signalbox/signalboxlaw15.BandPlays", spec := "bandPlays", apart := false, narrowed := true }
def BandPlaysUptoSaid : Prop := bandPlaysUptoRow.holds Try.pinned (OpenSpec.upto bandPlaysSpec)

/-- 'signalboxlaw15.BandNil', WHERE WHAT IT READS IS OF BULK AT MOST 1048576: true; the input reads as it did. -/
def bandNilUptoRow : OpenClaim := { program := "ytkmhdibabdifbaa", sum := "4e235100db04c8a2e52a7050e068cca6ae59996cd21d7350bce417d747723eff", func := "signalbox/signalboxlaw15.BandNil", spec := "bandNil", apart := false, narrowed := true }
def BandNilUptoSaid : Prop := bandNilUptoRow.holds Try.pinned (OpenSpec.upto bandNilSpec)

end Rows
end Go.Proofs.Ytkmhdibabdifbaa
