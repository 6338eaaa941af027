/- SegReads over plain texts: a part read is as the document says; written again it is those bytes. -/
import Derived.Test.YtbpjbnhhopohgaaPsignalboxlaw35SegReads
import Derived.Test.YtbpjbnhhopohgaaGReadLaws
namespace Go.Proofs.Ytbpjbnhhopohgaa.Pure
open Go.RowKit Go.Proofs.Ytbpjbnhhopohgaa.P Go.Proofs.YtbpjbnhhopohgaaW.PrintWords Go.Proofs.YtbpjbnhhopohgaaW.PrintLast

theorem SegReads : signalboxlaw35_SegReads.Pure := by
  intro s hs
  refine ⟨3, ?_⟩
  unfold signalboxlaw35_SegReads.f signalboxlaw35_SegReads.j0
  rw [seg_Read_f 0 s (by omega), ref35_Read_f 0 s (by omega)]
  simp only [Option.bind_some, alive35, readE, if_true]
  cases h : (readP s).2.2.2 with
  | true =>
    have w := write_read s h
    simp only [if_true, seg_Write_f, w, Option.bind_some]
    simp
  | false => simp
end Go.Proofs.Ytbpjbnhhopohgaa.Pure
