/- CrcSums over plain numbers and texts: for every text, width and poly the two checks are the same; no conditions. -/
import Derived.Test.YtbpjbnhhopohgaaPsignalboxlaw07CrcSums
import Derived.Test.YtbpjbnhhopohgaaGCrcLaws
namespace Go.Proofs.Ytbpjbnhhopohgaa.Pure
open Go.RowKit Go.Proofs.Ytbpjbnhhopohgaa.P Go.Proofs.YtbpjbnhhopohgaaW.PrintWords Go.Proofs.YtbpjbnhhopohgaaW.PrintLast

theorem CrcSums : signalboxlaw07_CrcSums.Pure := by
  intro s a1 a2 hs h1 h2
  unfold signalboxlaw07_CrcSums.f
  by_cases h : (s.size : Int) > 600
  · rw [if_pos h, alive07]; rfl
  · have hl : s.size ≤ 1099511627776 := by omega
    rw [if_neg h]
    have e : ∀ x y, signalboxref07_Sum.f s x y = crc_Sum.f s x y := fun x y => by unfold signalboxref07_Sum.f; rw [if_pos hl]
    rw [e, e, alive07]
    unfold crc_Crc.f
    obtain ⟨⟨n, b⟩, hn⟩ : ∃ r, crc_Sum.f s a1 a2 = some r := ⟨_, rfl⟩
    obtain ⟨⟨m, c⟩, hm⟩ : ∃ r, crc_Sum.f s 15 17817 = some r := ⟨_, rfl⟩
    rw [hn, hm]
    cases c <;> simp
end Go.Proofs.Ytbpjbnhhopohgaa.Pure
