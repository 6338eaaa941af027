/-
  No cell of these rows narrows 'for every input' (looked for: loops, veiled, ifaces, maps, wideKeys, modest, calm, conditions, laid).
  DERIVED. THE GIVEN ROWS OF THIS SEAT. 4 by the template 'for every input the law returns true; each argument reads behind the call as it read before'; 0 by the template 'total and deterministic' (their statements: YtaninnkhdhpcgaaTotals.lean).
  GIVEN WITH THE SEED: the statements are not yours to turn. If you find one false, say at which input.
  Laid BY PROGRAM, IN A SANDBOX (cutbox-rows.mjs): the forced cells as the released guide's own fill.sh prints them over the translation 38b70b773deb7b7a… (all of the seat's roots in one cut). By AI agents, Wed Nov 11 2026. No macro, syntax, notation, axiom, sorry.
-/
import Derived.Test.YtaninnkhdhpcgaaChecked
import GoSem.Claim
import GoSem.ClaimJoined
import GoSem.ClaimMapViews
import Derived.JoinedTies
import Derived.KernelRfl
namespace Go.Proofs.Ytaninnkhdhpcgaa
/- THE CELL 'sum', in the pinned program and in every row, IS THE sha256 OF THE DUMP (.gsa) THAT YtaninnkhdhpcgaaProg.lean LOADS. Nothing in Lean hashes anything: it is a label: what it is worth is what the hold of that sum in a sandbox is worth. -/
noncomputable def Try.pinned : Pinned := { name := "ytaninnkhdhpcgaa", sum := "38b70b773deb7b7a17a4dd7163f48cb95cc5086f467da877d59a8932c58041d1", checked := Try.checked }
namespace Rows
def none {H : Type} : Left H := { results := [], args := [] }

/-- 'signalboxlaw18.RegFull': WHATEVER THE INPUT: true; the input reads as it did. -/
def regFullSpec : ChangeSpec := { name := "regFull", fn := fun _ => fun
  | [d1, d2] => { results := [.lit (.bool true)], args := [d1, d2] }
  | _ => none }
def regFullRow : OpenClaim := { program := "ytaninnkhdhpcgaa", sum := "38b70b773deb7b7a17a4dd7163f48cb95cc5086f467da877d59a8932c58041d1", func := "signalbox/signalboxlaw18.RegFull", spec := "regFull", unfollowed := true, recurses := true, apart := false }
def RegFullSaid : Prop := regFullRow.holds Try.pinned (OpenSpec.ofChange regFullSpec)

/-- ITS FALSE NEIGHBOUR: 'it returns false'. Refute it at one input. -/
def regFullWrong : ChangeSpec := { name := "regFull", fn := fun _ => fun
  | [d1, d2] => { results := [.lit (.bool false)], args := [d1, d2] }
  | _ => none }
def RegFullWrongFalsely : Prop := regFullRow.holds Try.pinned (OpenSpec.ofChange regFullWrong)

/-- 'signalboxlaw18.RegPlays': WHATEVER THE INPUT: true; the input reads as it did. -/
def regPlaysSpec : ChangeSpec := { name := "regPlays", fn := fun _ => fun
  | [d] => { results := [.lit (.bool true)], args := [d] }
  | _ => none }
def regPlaysRow : OpenClaim := { program := "ytaninnkhdhpcgaa", sum := "38b70b773deb7b7a17a4dd7163f48cb95cc5086f467da877d59a8932c58041d1", func := "signalbox/signalboxlaw18.RegPlays", spec := "regPlays", unfollowed := true, recurses := true, apart := false }
def RegPlaysSaid : Prop := regPlaysRow.holds Try.pinned (OpenSpec.ofChange regPlaysSpec)

/-- ITS FALSE NEIGHBOUR: 'it returns false'. Refute it at one input. -/
def regPlaysWrong : ChangeSpec := { name := "regPlays", fn := fun _ => fun
  | [d] => { results := [.lit (.bool false)], args := [d] }
  | _ => none }
def RegPlaysWrongFalsely : Prop := regPlaysRow.holds Try.pinned (OpenSpec.ofChange regPlaysWrong)

/-- 'signalboxlaw18.RegBack': WHATEVER THE INPUT: true; the input reads as it did. -/
def regBackSpec : ChangeSpec := { name := "regBack", fn := fun _ => fun
  | [d1, d2, d3, d4, d5] => { results := [.lit (.bool true)], args := [d1, d2, d3, d4, d5] }
  | _ => none }
def regBackRow : OpenClaim := { program := "ytaninnkhdhpcgaa", sum := "38b70b773deb7b7a17a4dd7163f48cb95cc5086f467da877d59a8932c58041d1", func := "signalbox/signalboxlaw18.RegBack", spec := "regBack", unfollowed := true, recurses := true, apart := false }
def RegBackSaid : Prop := regBackRow.holds Try.pinned (OpenSpec.ofChange regBackSpec)

/-- ITS FALSE NEIGHBOUR: 'it returns false'. Refute it at one input. -/
def regBackWrong : ChangeSpec := { name := "regBack", fn := fun _ => fun
  | [d1, d2, d3, d4, d5] => { results := [.lit (.bool false)], args := [d1, d2, d3, d4, d5] }
  | _ => none }
def RegBackWrongFalsely : Prop := regBackRow.holds Try.pinned (OpenSpec.ofChange regBackWrong)

/-- 'signalboxlaw18.RegNil': WHATEVER THE INPUT: true; the input reads as it did. -/
def regNilSpec : ChangeSpec := { name := "regNil", fn := fun _ => fun
  | [d1, d2, d3] => { results := [.lit (.bool true)], args := [d1, d2, d3] }
  | _ => none }
def regNilRow : OpenClaim := { program := "ytaninnkhdhpcgaa", sum := "38b70b773deb7b7a17a4dd7163f48cb95cc5086f467da877d59a8932c58041d1", func := "signalbox/signalboxlaw18.RegNil", spec := "regNil", unfollowed := true, recurses := true, apart := false }
def RegNilSaid : Prop := regNilRow.holds Try.pinned (OpenSpec.ofChange regNilSpec)

/-- ITS FALSE NEIGHBOUR: 'it returns false'. Refute it at one input. -/
def regNilWrong : ChangeSpec := { name := "regNil", fn := fun _ => fun
  | [d1, d2, d3] => { results := [.lit (.bool false)], args := [d1, d2, d3] }
  | _ => none }
def RegNilWrongFalsely : Prop := regNilRow.holds Try.pinned (OpenSpec.ofChange regNilWrong)

/- THE SECOND FORM. 'bulk': how many values and letters a reading holds, each counted each time it is reached (what is shared counts as often as it is met; a slice's spare places count too). A statement '..UptoSaid' is the law's where the arguments, and the package variables that the reading takes, are together of bulk at most 1048576: NARROWER than '..Said'. Prove '..Said' where nothing that the law and all that it calls make is longer than what came in: it says more and counts as full. Else prove '..UptoSaid'. A law counts once. -/
mutual
def uptoBulk {H : Type} : DataW H → Nat
  | .lit (.string bytes) => bytes.length + 1
  | .lit _ => 1
  | .nil => 1
  | .ptr d => uptoBulk d + 1
  | .slice elems spare => uptoBulkAll elems + uptoBulkAll spare + 1
  | .agg parts => uptoBulkAll parts + 1
  | .iface _ d => uptoBulk d + 1
  | .map entries => uptoBulkEntries entries + 1
  | .held _ => 1
def uptoBulkAll {H : Type} : List (DataW H) → Nat
  | [] => 0
  | d :: r => uptoBulk d + uptoBulkAll r
def uptoBulkEntries {H : Type} : List (Lit × DataW H) → Nat
  | [] => 0
  | x :: r => uptoBulkEntry x + uptoBulkEntries r
def uptoBulkEntry {H : Type} : Lit × DataW H → Nat
  | (.string bytes, d) => bytes.length + uptoBulk d + 1
  | (_, d) => uptoBulk d + 1
 end
def uptoSmall : (H : Type) → List (DataW H) → Bool := fun _ ds => decide (uptoBulkAll ds ≤ 1048576)
def OpenSpec.upto (s : _root_.Go.ChangeSpec) : _root_.Go.OpenSpec := { _root_.Go.OpenSpec.ofChange s with cond := some uptoSmall }

/-- 'signalboxlaw18.RegFull', WHERE WHAT IT READS IS OF BULK AT MOST 1048576: true; the input reads as it did. -/
def regFullUptoRow : OpenClaim := { program := "ytaninnkhdhpcgaa", sum := "38b70b773deb7b7a17a4dd7163f48cb95cc5086f467da877d59a8932c58041d1", func := "signalbox/signalboxlaw18.RegFull", spec := "regFull", unfollowed := true, recurses := true, apart := false, narrowed := true }
def RegFullUptoSaid : Prop := regFullUptoRow.holds Try.pinned (OpenSpec.upto regFullSpec)

/-- 'signalboxlaw18.RegPlays', WHERE WHAT IT READS IS OF BULK AT MOST 1048576: true; the input reads as it did. -/
def regPlaysUptoRow : OpenClaim := { program := "ytaninnkhdhpcgaa", sum := "38b70b773deb7b7a17a4dd7163f48cb95cc5086f467da877d59a8932c58041d1", func := "signalbox/signalboxlaw18.RegPlays", spec := "regPlays", unfollowed := true, recurses := true, apart := false, narrowed := true }
def RegPlaysUptoSaid : Prop := regPlaysUptoRow.holds Try.pinned (OpenSpec.upto regPlaysSpec)

/-- 'signalboxlaw18.RegBack', WHERE WHAT IT READS IS OF BULK AT MOST 1048576: true; the input reads as it did. -/
def regBackUptoRow : OpenClaim := { program := "ytaninnkhdhpcgaa", sum := "38b70b773deb7b7a17a4dd7163f48cb95cc5086f467da877d59a8932c58041d1", func := "signalbox/signalboxlaw18.RegBack", spec := "regBack", unfollowed := true, recurses := true, apart := false, narrowed := true }
def RegBackUptoSaid : Prop := regBackUptoRow.holds Try.pinned (OpenSpec.upto regBackSpec)

/-- 'signalboxlaw18.RegNil', WHERE WHAT IT READS IS OF BULK AT MOST 1048576: true; the input reads as it did. -/
def regNilUptoRow : OpenClaim := { program := "ytaninnkhdhpcgaa", sum := "38b70b773deb7b7a17a4dd7163f48cb95cc5086f467da877d59a8932c58041d1", func := "signalbox/signalboxlaw18.RegNil", spec := "regNil", unfollowed := true, recurses := true, apart := false, narrowed := true }
def RegNilUptoSaid : Prop := regNilUptoRow.holds Try.pinned (OpenSpec.upto regNilSpec)

end Rows
end Go.Proofs.Ytaninnkhdhpcgaa
