/-
  No cell of these rows narrows 'for every input' (looked for: loops, veiled, ifaces, maps, wideKeys, modest, calm, conditions, laid).
  DERIVED. THE GIVEN ROWS OF THIS SEAT. 10 by the template 'for every input the law returns true; each argument reads behind the call as it read before'; 0 by the template 'total and deterministic' (their statements: YtbpjbnhhopohgaaTotals.lean).
  GIVEN WITH THE SEED: the statements are not yours to turn. If you find one false, say at which input.
  Laid BY PROGRAM, IN A SANDBOX (cutbox-rows.mjs): the forced cells as the released guide's own fill.sh prints them over the translation 52e23cfd65602260… (all of the seat's roots in one cut). By AI agents, Wed Nov 11 2026. No macro, syntax, notation, axiom, sorry.
-/
import Derived.Test.YtbpjbnhhopohgaaChecked
import GoSem.Claim
import GoSem.ClaimJoined
import GoSem.ClaimMapViews
import Derived.JoinedTies
import Derived.KernelRfl
namespace Go.Proofs.Ytbpjbnhhopohgaa
/- THE CELL 'sum', in the pinned program and in every row, IS THE sha256 OF THE DUMP (.gsa) THAT YtbpjbnhhopohgaaProg.lean LOADS. Nothing in Lean hashes anything: it is a label: what it is worth is what the hold of that sum in a sandbox is worth. -/
noncomputable def Try.pinned : Pinned := { name := "ytbpjbnhhopohgaa", sum := "52e23cfd65602260f14fe859e0a31eee5f90a6fab911dedda6e139256d738131", checked := Try.checked }
namespace Rows
def none {H : Type} : Left H := { results := [], args := [] }

/-- 'signalboxlaw35.SegMany': WHATEVER THE INPUT: true; the input reads as it did. -/
def segManySpec : ChangeSpec := { name := "segMany", fn := fun _ => fun
  | [d] => { results := [.lit (.bool true)], args := [d] }
  | _ => none }
def segManyRow : OpenClaim := { program := "ytbpjbnhhopohgaa", sum := "52e23cfd65602260f14fe859e0a31eee5f90a6fab911dedda6e139256d738131", func := "signalbox/signalboxlaw35.SegMany", spec := "segMany", unfollowed := true, recurses := true, apart := false }
def SegManySaid : Prop := segManyRow.holds Try.pinned (OpenSpec.ofChange segManySpec)

/-- ITS FALSE NEIGHBOUR: 'it returns false'. Refute it at one input. -/
def segManyWrong : ChangeSpec := { name := "segMany", fn := fun _ => fun
  | [d] => { results := [.lit (.bool false)], args := [d] }
  | _ => none }
def SegManyWrongFalsely : Prop := segManyRow.holds Try.pinned (OpenSpec.ofChange segManyWrong)

/-- 'signalboxlaw07.CrcSums': WHATEVER THE INPUT: true; the input reads as it did. -/
def crcSumsSpec : ChangeSpec := { name := "crcSums", fn := fun _ => fun
  | [d1, d2, d3] => { results := [.lit (.bool true)], args := [d1, d2, d3] }
  | _ => none }
def crcSumsRow : OpenClaim := { program := "ytbpjbnhhopohgaa", sum := "52e23cfd65602260f14fe859e0a31eee5f90a6fab911dedda6e139256d738131", func := "signalbox/signalboxlaw07.CrcSums", spec := "crcSums", apart := false }
def CrcSumsSaid : Prop := crcSumsRow.holds Try.pinned (OpenSpec.ofChange crcSumsSpec)

/-- ITS FALSE NEIGHBOUR: 'it returns false'. Refute it at one input. -/
def crcSumsWrong : ChangeSpec := { name := "crcSums", fn := fun _ => fun
  | [d1, d2, d3] => { results := [.lit (.bool false)], args := [d1, d2, d3] }
  | _ => none }
def CrcSumsWrongFalsely : Prop := crcSumsRow.holds Try.pinned (OpenSpec.ofChange crcSumsWrong)

/-- 'signalboxlaw07.CrcNone': WHATEVER THE INPUT: true; the input reads as it did. -/
def crcNoneSpec : ChangeSpec := { name := "crcNone", fn := fun _ => fun
  | [d1, d2, d3, d4] => { results := [.lit (.bool true)], args := [d1, d2, d3, d4] }
  | _ => none }
def crcNoneRow : OpenClaim := { program := "ytbpjbnhhopohgaa", sum := "52e23cfd65602260f14fe859e0a31eee5f90a6fab911dedda6e139256d738131", func := "signalbox/signalboxlaw07.CrcNone", spec := "crcNone", apart := false }
def CrcNoneSaid : Prop := crcNoneRow.holds Try.pinned (OpenSpec.ofChange crcNoneSpec)

/-- ITS FALSE NEIGHBOUR: 'it returns false'. Refute it at one input. -/
def crcNoneWrong : ChangeSpec := { name := "crcNone", fn := fun _ => fun
  | [d1, d2, d3, d4] => { results := [.lit (.bool false)], args := [d1, d2, d3, d4] }
  | _ => none }
def CrcNoneWrongFalsely : Prop := crcNoneRow.holds Try.pinned (OpenSpec.ofChange crcNoneWrong)

/-- 'signalboxlaw35.SegReads': WHATEVER THE INPUT: true; the input reads as it did. -/
def segReadsSpec : ChangeSpec := { name := "segReads", fn := fun _ => fun
  | [d] => { results := [.lit (.bool true)], args := [d] }
  | _ => none }
def segReadsRow : OpenClaim := { program := "ytbpjbnhhopohgaa", sum := "52e23cfd65602260f14fe859e0a31eee5f90a6fab911dedda6e139256d738131", func := "signalbox/signalboxlaw35.SegReads", spec := "segReads", unfollowed := true, recurses := true, apart := false }
def SegReadsSaid : Prop := segReadsRow.holds Try.pinned (OpenSpec.ofChange segReadsSpec)

/-- ITS FALSE NEIGHBOUR: 'it returns false'. Refute it at one input. -/
def segReadsWrong : ChangeSpec := { name := "segReads", fn := fun _ => fun
  | [d] => { results := [.lit (.bool false)], args := [d] }
  | _ => none }
def SegReadsWrongFalsely : Prop := segReadsRow.holds Try.pinned (OpenSpec.ofChange segReadsWrong)

/-- 'signalboxlaw35.SegWrites': WHATEVER THE INPUT: true; the input reads as it did. -/
def segWritesSpec : ChangeSpec := { name := "segWrites", fn := fun _ => fun
  | [d] => { results := [.lit (.bool true)], args := [d] }
  | _ => none }
def segWritesRow : OpenClaim := { program := "ytbpjbnhhopohgaa", sum := "52e23cfd65602260f14fe859e0a31eee5f90a6fab911dedda6e139256d738131", func := "signalbox/signalboxlaw35.SegWrites", spec := "segWrites", unfollowed := true, recurses := true, apart := false }
def SegWritesSaid : Prop := segWritesRow.holds Try.pinned (OpenSpec.ofChange segWritesSpec)

/-- ITS FALSE NEIGHBOUR: 'it returns false'. Refute it at one input. -/
def segWritesWrong : ChangeSpec := { name := "segWrites", fn := fun _ => fun
  | [d] => { results := [.lit (.bool false)], args := [d] }
  | _ => none }
def SegWritesWrongFalsely : Prop := segWritesRow.holds Try.pinned (OpenSpec.ofChange segWritesWrong)

/-- 'signalboxlaw07.CrcBits': WHATEVER THE INPUT: true; the input reads as it did. -/
def crcBitsSpec : ChangeSpec := { name := "crcBits", fn := fun _ => fun
  | [d1, d2, d3, d4] => { results := [.lit (.bool true)], args := [d1, d2, d3, d4] }
  | _ => none }
def crcBitsRow : OpenClaim := { program := "ytbpjbnhhopohgaa", sum := "52e23cfd65602260f14fe859e0a31eee5f90a6fab911dedda6e139256d738131", func := "signalbox/signalboxlaw07.CrcBits", spec := "crcBits", unfollowed := true, recurses := true, apart := false }
def CrcBitsSaid : Prop := crcBitsRow.holds Try.pinned (OpenSpec.ofChange crcBitsSpec)

/-- ITS FALSE NEIGHBOUR: 'it returns false'. Refute it at one input. -/
def crcBitsWrong : ChangeSpec := { name := "crcBits", fn := fun _ => fun
  | [d1, d2, d3, d4] => { results := [.lit (.bool false)], args := [d1, d2, d3, d4] }
  | _ => none }
def CrcBitsWrongFalsely : Prop := crcBitsRow.holds Try.pinned (OpenSpec.ofChange crcBitsWrong)

/-- 'signalboxlaw07.CrcAdds': WHATEVER THE INPUT: true; the input reads as it did. -/
def crcAddsSpec : ChangeSpec := { name := "crcAdds", fn := fun _ => fun
  | [d1, d2, d3, d4] => { results := [.lit (.bool true)], args := [d1, d2, d3, d4] }
  | _ => none }
def crcAddsRow : OpenClaim := { program := "ytbpjbnhhopohgaa", sum := "52e23cfd65602260f14fe859e0a31eee5f90a6fab911dedda6e139256d738131", func := "signalbox/signalboxlaw07.CrcAdds", spec := "crcAdds", unfollowed := true, recurses := true, apart := false }
def CrcAddsSaid : Prop := crcAddsRow.holds Try.pinned (OpenSpec.ofChange crcAddsSpec)

/-- ITS FALSE NEIGHBOUR: 'it returns false'. Refute it at one input. -/
def crcAddsWrong : ChangeSpec := { name := "crcAdds", fn := fun _ => fun
  | [d1, d2, d3, d4] => { results := [.lit (.bool false)], args := [d1, d2, d3, d4] }
  | _ => none }
def CrcAddsWrongFalsely : Prop := crcAddsRow.holds Try.pinned (OpenSpec.ofChange crcAddsWrong)

/-- 'signalboxlaw07.CrcFinds': WHATEVER THE INPUT: true; the input reads as it did. -/
def crcFindsSpec : ChangeSpec := { name := "crcFinds", fn := fun _ => fun
  | [d1, d2, d3, d4, d5] => { results := [.lit (.bool true)], args := [d1, d2, d3, d4, d5] }
  | _ => none }
def crcFindsRow : OpenClaim := { program := "ytbpjbnhhopohgaa", sum := "52e23cfd65602260f14fe859e0a31eee5f90a6fab911dedda6e139256d738131", func := "signalbox/signalboxlaw07.CrcFinds", spec := "crcFinds", unfollowed := true, recurses := true, apart := false }
def CrcFindsSaid : Prop := crcFindsRow.holds Try.pinned (OpenSpec.ofChange crcFindsSpec)

/-- ITS FALSE NEIGHBOUR: 'it returns false'. Refute it at one input. -/
def crcFindsWrong : ChangeSpec := { name := "crcFinds", fn := fun _ => fun
  | [d1, d2, d3, d4, d5] => { results := [.lit (.bool false)], args := [d1, d2, d3, d4, d5] }
  | _ => none }
def CrcFindsWrongFalsely : Prop := crcFindsRow.holds Try.pinned (OpenSpec.ofChange crcFindsWrong)

/-- 'signalboxlaw35.SegJoins': WHATEVER THE INPUT: true; the input reads as it did. -/
def segJoinsSpec : ChangeSpec := { name := "segJoins", fn := fun _ => fun
  | [d] => { results := [.lit (.bool true)], args := [d] }
  | _ => none }
def segJoinsRow : OpenClaim := { program := "ytbpjbnhhopohgaa", sum := "52e23cfd65602260f14fe859e0a31eee5f90a6fab911dedda6e139256d738131", func := "signalbox/signalboxlaw35.SegJoins", spec := "segJoins", inPlace := ["internal/abi.NoEscape"], unfollowed := true, recurses := true, apart := false }
def SegJoinsSaid : Prop := segJoinsRow.holds Try.pinned (OpenSpec.ofChange segJoinsSpec)

/-- ITS FALSE NEIGHBOUR: 'it returns false'. Refute it at one input. -/
def segJoinsWrong : ChangeSpec := { name := "segJoins", fn := fun _ => fun
  | [d] => { results := [.lit (.bool false)], args := [d] }
  | _ => none }
def SegJoinsWrongFalsely : Prop := segJoinsRow.holds Try.pinned (OpenSpec.ofChange segJoinsWrong)

/-- 'signalboxlaw35.SegSplits': WHATEVER THE INPUT: true; the input reads as it did. -/
def segSplitsSpec : ChangeSpec := { name := "segSplits", fn := fun _ => fun
  | [d] => { results := [.lit (.bool true)], args := [d] }
  | _ => none }
def segSplitsRow : OpenClaim := { program := "ytbpjbnhhopohgaa", sum := "52e23cfd65602260f14fe859e0a31eee5f90a6fab911dedda6e139256d738131", func := "signalbox/signalboxlaw35.SegSplits", spec := "segSplits", inPlace := ["internal/abi.NoEscape"], unfollowed := true, recurses := true, apart := false }
def SegSplitsSaid : Prop := segSplitsRow.holds Try.pinned (OpenSpec.ofChange segSplitsSpec)

/-- ITS FALSE NEIGHBOUR: 'it returns false'. Refute it at one input. -/
def segSplitsWrong : ChangeSpec := { name := "segSplits", fn := fun _ => fun
  | [d] => { results := [.lit (.bool false)], args := [d] }
  | _ => none }
def SegSplitsWrongFalsely : Prop := segSplitsRow.holds Try.pinned (OpenSpec.ofChange segSplitsWrong)

/- THE SECOND FORM. 'bulk': how many values and letters a reading holds, each counted each time it is reached (what is shared counts as often as it is met; a slice's spare places count too). A statement '..UptoSaid' is the law's where the arguments, and the package variables that the reading takes, are together of bulk at most 1048576: NARROWER than '..Said'. Prove '..Said' where nothing that the law and all that it calls make is longer than what came in: it says more and counts as full. Else prove '..UptoSaid'. A law counts once. -/
mutual
def uptoBulk {H : Type} : DataW H → Nat
  | .lit (.string bytes) => bytes.length + 1
  | .lit _ => 1
  | .nil => 1
  | .ptr d => uptoBulk d + 1
  | .slice elems spare => uptoBulkAll elems + uptoBulkAll spare + 1
  | .agg parts => uptoBulkAll parts + 1
  | .iface _ d => uptoBulk d + 1
  | .map entries => uptoBulkEntries entries + 1
  | .held _ => 1
def uptoBulkAll {H : Type} : List (DataW H) → Nat
  | [] => 0
  | d :: r => uptoBulk d + uptoBulkAll r
def uptoBulkEntries {H : Type} : List (Lit × DataW H) → Nat
  | [] => 0
  | x :: r => uptoBulkEntry x + uptoBulkEntries r
def uptoBulkEntry {H : Type} : Lit × DataW H → Nat
  | (.string bytes, d) => bytes.length + uptoBulk d + 1
  | (_, d) => uptoBulk d + 1
 end
def uptoSmall : (H : Type) → List (DataW H) → Bool := fun _ ds => decide (uptoBulkAll ds ≤ 1048576)
def OpenSpec.upto (s : _root_.Go.ChangeSpec) : _root_.Go.OpenSpec := { _root_.Go.OpenSpec.ofChange s with cond := some uptoSmall }

/-- 'signalboxlaw35.SegMany', WHERE WHAT IT READS IS OF BULK AT MOST 1048576: true; the input reads as it did. -/
def segManyUptoRow : OpenClaim := { program := "ytbpjbnhhopohgaa", sum := "52e23cfd65602260f14fe859e0a31eee5f90a6fab911dedda6e139256d738131", func := "signalbox/signalboxlaw35.SegMany", spec := "segMany", unfollowed := true, recurses := true, apart := false, narrowed := true }
def SegManyUptoSaid : Prop := segManyUptoRow.holds Try.pinned (OpenSpec.upto segManySpec)

/-- 'signalboxlaw07.CrcSums', WHERE WHAT IT READS IS OF BULK AT MOST 1048576: true; the input reads as it did. -/
def crcSumsUptoRow : OpenClaim := { program := "ytbpjbnhhopohgaa", sum := "52e23cfd65602260f14fe859e0a31eee5f90a6fab911dedda6e139256d738131", func := "signalbox/signalboxlaw07.CrcSums", spec := "crcSums", apart := false, narrowed := true }
def CrcSumsUptoSaid : Prop := crcSumsUptoRow.holds Try.pinned (OpenSpec.upto crcSumsSpec)

/-- 'signalboxlaw07.CrcNone', WHERE WHAT IT READS IS OF BULK AT MOST 1048576: true; the input reads as it did. -/
def crcNoneUptoRow : OpenClaim := { program := "ytbpjbnhhopohgaa", sum := "52e23cfd65602260f14fe859e0a31eee5f90a6fab911dedda6e139256d738131", func := "signalbox/signalboxlaw07.CrcNone", spec := "crcNone", apart := false, narrowed := true }
def CrcNoneUptoSaid : Prop := crcNoneUptoRow.holds Try.pinned (OpenSpec.upto crcNoneSpec)

/-- 'signalboxlaw35.SegReads', WHERE WHAT IT READS IS OF BULK AT MOST 1048576: true; the input reads as it did. -/
def segReadsUptoRow : OpenClaim := { program := "ytbpjbnhhopohgaa", sum := "52e23cfd65602260f14fe859e0a31eee5f90a6fab911dedda6e139256d738131", func := "signalbox/signalboxlaw35.SegReads", spec := "segReads", unfollowed := true, recurses := true, apart := false, narrowed := true }
def SegReadsUptoSaid : Prop := segReadsUptoRow.holds Try.pinned (OpenSpec.upto segReadsSpec)

/-- 'signalboxlaw35.SegWrites', WHERE WHAT IT READS IS OF BULK AT MOST 1048576: true; the input reads as it did. -/
def segWritesUptoRow : OpenClaim := { program := "ytbpjbnhhopohgaa", sum := "52e23cfd65602260f14fe859e0a31eee5f90a6fab911dedda6e139256d738131", func := "signalbox/signalboxlaw35.SegWrites", spec := "segWrites", unfollowed := true, recurses := true, apart := false, narrowed := true }
def SegWritesUptoSaid : Prop := segWritesUptoRow.holds Try.pinned (OpenSpec.upto segWritesSpec)

/-- 'signalboxlaw07.CrcBits', WHERE WHAT IT READS IS OF BULK AT MOST 1048576: true; the input reads as it did. -/
def crcBitsUptoRow : OpenClaim := { program := "ytbpjbnhhopohgaa", sum := "52e23cfd65602260f14fe859e0a31eee5f90a6fab911dedda6e139256d738131", func := "signalbox/signalboxlaw07.CrcBits", spec := "crcBits", unfollowed := true, recurses := true, apart := false, narrowed := true }
def CrcBitsUptoSaid : Prop := crcBitsUptoRow.holds Try.pinned (OpenSpec.upto crcBitsSpec)

/-- 'signalboxlaw07.CrcAdds', WHERE WHAT IT READS IS OF BULK AT MOST 1048576: true; the input reads as it did. -/
def crcAddsUptoRow : OpenClaim := { program := "ytbpjbnhhopohgaa", sum := "52e23cfd65602260f14fe859e0a31eee5f90a6fab911dedda6e139256d738131", func := "signalbox/signalboxlaw07.CrcAdds", spec := "crcAdds", unfollowed := true, recurses := true, apart := false, narrowed := true }
def CrcAddsUptoSaid : Prop := crcAddsUptoRow.holds Try.pinned (OpenSpec.upto crcAddsSpec)

/-- 'signalboxlaw07.CrcFinds', WHERE WHAT IT READS IS OF BULK AT MOST 1048576: true; the input reads as it did. -/
def crcFindsUptoRow : OpenClaim := { program := "ytbpjbnhhopohgaa", sum := "52e23cfd65602260f14fe859e0a31eee5f90a6fab911dedda6e139256d738131", func := "signalbox/signalboxlaw07.CrcFinds", spec := "crcFinds", unfollowed := true, recurses := true, apart := false, narrowed := true }
def CrcFindsUptoSaid : Prop := crcFindsUptoRow.holds Try.pinned (OpenSpec.upto crcFindsSpec)

/-- 'signalboxlaw35.SegJoins', WHERE WHAT IT READS IS OF BULK AT MOST 1048576: true; the input reads as it did. -/
def segJoinsUptoRow : OpenClaim := { program := "ytbpjbnhhopohgaa", sum := "52e23cfd65602260f14fe859e0a31eee5f90a6fab911dedda6e139256d738131", func := "signalbox/signalboxlaw35.SegJoins", spec := "segJoins", inPlace := ["internal/abi.NoEscape"], unfollowed := true, recurses := true, apart := false, narrowed := true }
def SegJoinsUptoSaid : Prop := segJoinsUptoRow.holds Try.pinned (OpenSpec.upto segJoinsSpec)

/-- 'signalboxlaw35.SegSplits', WHERE WHAT IT READS IS OF BULK AT MOST 1048576: true; the input reads as it did. -/
def segSplitsUptoRow : OpenClaim := { program := "ytbpjbnhhopohgaa", sum := "52e23cfd65602260f14fe859e0a31eee5f90a6fab911dedda6e139256d738131", func := "signalbox/signalboxlaw35.SegSplits", spec := "segSplits", inPlace := ["internal/abi.NoEscape"], unfollowed := true, recurses := true, apart := false, narrowed := true }
def SegSplitsUptoSaid : Prop := segSplitsUptoRow.holds Try.pinned (OpenSpec.upto segSplitsSpec)

end Rows
end Go.Proofs.Ytbpjbnhhopohgaa
