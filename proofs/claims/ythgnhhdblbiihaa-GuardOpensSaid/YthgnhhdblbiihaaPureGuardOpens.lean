/- GuardOpens over plain numbers and texts; no conditions. -/
import Derived.Test.YthgnhhdblbiihaaPsignalboxlaw40GuardOpens
import Derived.Test.YthgnhhdblbiihaaGGuardRef
namespace Go.Proofs.Ythgnhhdblbiihaa.Pure
open Go.RowKit Go.Proofs.Ythgnhhdblbiihaa.P Go.Proofs.YthgnhhdblbiihaaW.PrintWords Go.Proofs.YthgnhhdblbiihaaW.PrintLast

theorem GuardOpens : signalboxlaw40_GuardOpens.Pure := by
  intro id s _ hs
  obtain ⟨K, hK⟩ : ∃ K, K = 990 := ⟨_, rfl⟩
  refine ⟨K + 10, ?_⟩
  unfold signalboxlaw40_GuardOpens.f
  rw [alive40]
  by_cases h : (s.size : Int) > 200
  · rw [if_pos h]; rfl
  · rw [if_neg h, open_f (K + 8) id s (by omega), refOpen_f id s (by omega) (K + 10) (by omega)]
    simp
end Go.Proofs.Ythgnhhdblbiihaa.Pure
