/- CrcAdds over plain numbers and texts: the check of where two texts are unlike is where their checks are; no conditions. -/
import Derived.Test.YtbpjbnhhopohgaaPsignalboxlaw07CrcAdds
import Derived.Test.YtbpjbnhhopohgaaGCrcLaws
namespace Go.Proofs.Ytbpjbnhhopohgaa.Pure
open Go.RowKit Go.Proofs.Ytbpjbnhhopohgaa.P Go.Proofs.YtbpjbnhhopohgaaW.PrintWords Go.Proofs.YtbpjbnhhopohgaaW.PrintLast

theorem CrcAdds : signalboxlaw07_CrcAdds.Pure := by
  intro a b a1 a2 ha hb h1 h2
  refine ⟨3, ?_⟩
  unfold signalboxlaw07_CrcAdds.f
  by_cases h : (a.size : Int) > 600
  · rw [if_pos h]; simp [signalboxlaw07_CrcAdds.j0, alive07]
  · rw [if_neg h]
    by_cases hab : (a.size : Int) = b.size
    · have e0 : ((a.size : Int) != b.size) = false := by simp [hab]
      rw [e0]
      simp only [signalboxlaw07_CrcAdds.j0, signalboxlaw07_CrcAdds.j1]
      by_cases hok : crcOk a1 a2 = true
      · obtain ⟨W, P, rfl, rfl, hW, hW2, hP⟩ := (crcOk_iff a1 a2).1 hok
        cases hba : bitsB a with
        | false => rw [crc_Sum_no a _ _ (by simp [hba])]; obtain ⟨r, hr⟩ : ∃ r, crc_Sum.f b (W : Int) (P : Int) = some r := ⟨_, rfl⟩; rw [hr]; simp [alive07]
        | true =>
          rw [crc_Sum_yes a W P hba hW hW2 hP]
          cases hbb : bitsB b with
          | false => rw [crc_Sum_no b _ _ (by simp [hbb])]; simp [alive07]
          | true =>
            rw [crc_Sum_yes b W P hbb hW hW2 hP]
            have hadd : crc_Add.f a b = some (strOfNums (addL a.data.toList b.data.toList)) := by
              unfold crc_Add.f
              rw [hba, hbb, if_pos (by simp; omega), if_pos (by omega)]
            have hbits : bitsB (strOfNums (addL a.data.toList b.data.toList)) = true := addL_bits _ _
            simp only [Option.bind_some, hadd, if_true, Bool.not_true, Bool.false_eq_true, if_false]
            rw [crc_Sum_yes _ W P hbits hW hW2 hP, crc_add W P hW hP a b hba hbb (by omega)]
            have hp := pow_le_30 W hW2
            have l1 := crcN_lt W P hP a.data.toList
            have l2 := crcN_lt W P hP b.data.toList
            rw [bits_xor _ _ (by omega) (by omega)]
            simp [alive07]
      · rw [crc_Sum_no a _ _ (by simp [hok]), crc_Sum_no b _ _ (by simp [hok])]
        simp [alive07]
    · have e0 : ((a.size : Int) != b.size) = true := by simpa using hab
      rw [e0]
      simp [signalboxlaw07_CrcAdds.j0, alive07]
end Go.Proofs.Ytbpjbnhhopohgaa.Pure
