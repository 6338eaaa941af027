/- CrcNone over plain numbers and texts: bits with their check's bits behind them have the check nought, noughts ahead change nothing; no conditions. -/
import Derived.Test.YtbpjbnhhopohgaaPsignalboxlaw07CrcNone
import Derived.Test.YtbpjbnhhopohgaaGCrcLaws
namespace Go.Proofs.Ytbpjbnhhopohgaa.Pure
open Go.RowKit Go.Proofs.Ytbpjbnhhopohgaa.P Go.Proofs.YtbpjbnhhopohgaaW.PrintWords Go.Proofs.YtbpjbnhhopohgaaW.PrintLast

def byteL (xs : List Int) : List UInt8 := xs.map fun n => UInt8.ofNat n.toNat
theorem crc_own (W P n : Nat) (hW : 1 ≤ W) (hP : P < 2 ^ W) (hn : n < 2 ^ W) : ∀ j, j ≤ W → crcFrom W P n (byteL ((bitsL n W).take j)) = (2 ^ j * n) % 2 ^ W
  | 0, _ => by simp [byteL, crcFrom, Nat.mod_eq_of_lt hn]
  | j + 1, hj => by
    have ih := crc_own W P n hW hP hn j (by omega)
    rw [bitsL_take n W j (by omega), byteL, List.map_append, crcFrom_append]
    rw [byteL] at ih
    rw [ih]
    have hm : (2 ^ j * n) % 2 ^ W < 2 ^ W := Nat.mod_lt _ (Nat.two_pow_pos W)
    have htop : ((2 ^ j * n) % 2 ^ W).testBit (W - 1) = n.testBit (W - 1 - j) := by
      rw [Nat.testBit_mod_two_pow, Nat.testBit_two_pow_mul]
      simp [show W - 1 < W by omega, show j ≤ W - 1 by omega]
    have hb : (UInt8.ofNat (bitAt n W j).toNat == 49) = n.testBit (W - 1 - j) := by
      rw [bitAt_bit]
      cases n.testBit (W - 1 - j) <;> decide
    show crcStep W P _ _ = _
    apply Nat.eq_of_testBit_eq
    intro i
    by_cases hi : i < W
    · rw [crcStep_bit W P _ _ hW hm i hi, htop, hb, Bool.xor_self, Bool.false_and, Bool.xor_false, Nat.testBit_mod_two_pow, Nat.testBit_two_pow_mul, Nat.testBit_mod_two_pow, Nat.testBit_two_pow_mul]
      by_cases h1 : 1 ≤ i
      · rw [show i - (j + 1) = i - 1 - j by omega]
        simp [h1, hi, show i - 1 < W by omega, show (j ≤ i - 1) = (j + 1 ≤ i) from propext (by omega)]
      · simp [h1, show ¬ (j + 1 ≤ i) by omega]
    · rw [testBit_out _ W i (crcStep_lt W P _ _ hP) (by omega), testBit_out _ W i (Nat.mod_lt _ (Nat.two_pow_pos W)) (by omega)]
theorem crc_zeros (W P : Nat) (hW : 1 ≤ W) : ∀ z, crcN W P (byteL (bitsL 0 z)) = 0
  | 0 => rfl
  | z + 1 => by
    have ih := crc_zeros W P hW z
    have e : bitsL 0 (z + 1) = bitsL 0 z ++ [48] := by rw [bitsL_snoc]; rfl
    rw [e, byteL, List.map_append, List.map_singleton, crcN_snoc]
    rw [byteL] at ih
    rw [ih]
    have h0 : (0 : Nat) / 2 ^ (W - 1) = 0 := Nat.zero_div _
    unfold crcStep
    rw [h0]
    simp
theorem toList_append (a b : ByteArray) : (a ++ b).data.toList = a.data.toList ++ b.data.toList := by rw [ByteArray.data_append, Array.toList_append]
theorem bitsB_append (a b : ByteArray) (ha : bitsB a = true) (hb : bitsB b = true) : bitsB (a ++ b) = true := by
  unfold bitsB at *
  rw [toList_append, List.all_append, ha, hb]
  rfl
theorem CrcNone : signalboxlaw07_CrcNone.Pure := by
  intro s a1 a2 z hs h1 h2 h3
  refine ⟨2, ?_⟩
  unfold signalboxlaw07_CrcNone.f
  by_cases h : (s.size : Int) > 600
  · rw [if_pos h]; simp [signalboxlaw07_CrcNone.j0, alive07]
  · rw [if_neg h]
    by_cases hz : z < 0
    · rw [if_pos hz]; simp [signalboxlaw07_CrcNone.j0, alive07]
    · rw [if_neg hz]
      by_cases hz2 : z > 40
      · simp [signalboxlaw07_CrcNone.j0, alive07, hz2]
      · rw [decide_eq_false hz2]
        simp only [signalboxlaw07_CrcNone.j0]
        cases hok : (bitsB s && crcOk a1 a2) with
        | false => rw [crc_Sum_no s _ _ hok]; simp [alive07]
        | true =>
          rw [Bool.and_eq_true] at hok
          obtain ⟨hb, hok⟩ := hok
          obtain ⟨W, P, rfl, rfl, hW, hW2, hP⟩ := (crcOk_iff a1 a2).1 hok
          obtain ⟨Z, rfl⟩ := Int.eq_ofNat_of_zero_le (show 0 ≤ z by omega)
          have hp := pow_le_30 W hW2
          have l1 := crcN_lt W P hP s.data.toList
          rw [crc_Sum_yes s W P hb hW hW2 hP]
          have hb1 : crc_Bits.f ((crcN W P s.data.toList : Nat) : Int) (W : Int) = some (strOfNums (bitsL (crcN W P s.data.toList) W)) := by
            unfold crc_Bits.f
            rw [if_pos (by simp [bitsOk]; omega), if_pos (by omega)]
            rfl
          have hb2 : crc_Bits.f 0 (Z : Int) = some (strOfNums (bitsL 0 Z)) := by
            unfold crc_Bits.f
            rw [if_pos (by simp [bitsOk]; omega), if_pos (by omega)]
            rfl
          simp only [Option.bind_some, hb1, hb2, Bool.false_eq_true, if_false, if_true]
          have hs1 : (strOfNums (bitsL (crcN W P s.data.toList) W)).size = W := by rw [strOfNums_size, bitsL_length]
          have hs2 : (strOfNums (bitsL 0 Z)).size = Z := by rw [strOfNums_size, bitsL_length]
          rw [if_pos (by omega), crc_Sum_yes _ W P (bitsB_append _ _ hb (bitsL_bits _ _)) hW hW2 hP]
          simp only [Option.bind_some]
          rw [if_pos (by omega), crc_Sum_yes _ W P (bitsB_append _ _ (bitsL_bits _ _) hb) hW hW2 hP]
          have e1 : crcN W P (s ++ strOfNums (bitsL (crcN W P s.data.toList) W)).data.toList = 0 := by
            rw [toList_append, crcN_append, strOfNums_data]
            have := crc_own W P _ hW hP l1 W (Nat.le_refl _)
            rw [List.take_of_length_le (by rw [bitsL_length]; omega), byteL] at this
            rw [this]
            exact Nat.mul_mod_right _ _
          have e2 : crcN W P (strOfNums (bitsL 0 Z) ++ s).data.toList = crcN W P s.data.toList := by
            rw [toList_append, crcN_append, strOfNums_data]
            have := crc_zeros W P hW Z
            rw [byteL] at this
            rw [this]
            rfl
          rw [e1, e2]
          simp [alive07]
end Go.Proofs.Ytbpjbnhhopohgaa.Pure
