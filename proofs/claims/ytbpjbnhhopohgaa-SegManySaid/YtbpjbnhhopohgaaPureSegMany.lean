/- SegMany over plain numbers: how many parts; no conditions. -/
import Derived.Test.YtbpjbnhhopohgaaPsignalboxlaw35SegMany
import Derived.Test.YtbpjbnhhopohgaaGSegLaws
namespace Go.Proofs.Ytbpjbnhhopohgaa.Pure
open Go.RowKit Go.Proofs.Ytbpjbnhhopohgaa.P Go.Proofs.YtbpjbnhhopohgaaW.PrintWords Go.Proofs.YtbpjbnhhopohgaaW.PrintLast

theorem SegMany : signalboxlaw35_SegMany.Pure := by
  intro n hn
  refine ⟨1, ?_⟩
  unfold signalboxlaw35_SegMany.f signalboxlaw35_SegMany.j0
  rw [seg_Many_f 0 n]
  simp only [Option.bind_some, alive35]
  unfold manyP
  by_cases h : n < 1
  · simp [h]
  · by_cases h2 : n > 4095
    · simp [h, h2]
    · have h3 : ¬ (n < 1 ∨ 4095 < n) := by omega
      by_cases h4 : n ≤ 7
      · simp [h, h2, h3, h4]
      · have e1 : wrap64 (1 + n / 7 - 1) = n / 7 := by rw [w64_small _ (by omega) (by omega)]; omega
        have e2 : wrap64 (7 * (n / 7)) = 7 * (n / 7) := w64_small _ (by omega) (by omega)
        have e3 : wrap64 (6 + 7 * (n / 7)) = 6 + 7 * (n / 7) := w64_small _ (by omega) (by omega)
        have e4 : wrap64 (1 + n / 7 - 2) = n / 7 - 1 := by rw [w64_small _ (by omega) (by omega)]; omega
        have e5 : wrap64 (7 * (n / 7 - 1)) = 7 * (n / 7) - 7 := by rw [w64_small _ (by omega) (by omega)]; omega
        have e6 : wrap64 (6 + (7 * (n / 7) - 7)) = 7 * (n / 7) - 1 := by rw [w64_small _ (by omega) (by omega)]; omega
        simp only [if_neg h, if_neg h3, if_neg h4, decide_eq_true_eq, if_neg h2, e1, e2, e3, e4, e5, e6]
        rw [if_pos (by omega), if_pos (by omega), if_pos (by omega), if_pos (by omega), if_neg (by omega), if_pos (by omega), if_pos (by omega)]
end Go.Proofs.Ytbpjbnhhopohgaa.Pure
