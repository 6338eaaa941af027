/- CrcBits over plain numbers and texts: bits, numbers and where texts are unlike are as the reference says, and lead back; no conditions. -/
import Derived.Test.YtbpjbnhhopohgaaPsignalboxlaw07CrcBits
import Derived.Test.YtbpjbnhhopohgaaGCrcLaws
import Derived.OpenShut
namespace Go.Proofs.Ytbpjbnhhopohgaa.Pure
open Go.RowKit Go.Proofs.Ytbpjbnhhopohgaa.P Go.Proofs.YtbpjbnhhopohgaaW.PrintWords Go.Proofs.YtbpjbnhhopohgaaW.PrintLast Go.Proofs.YtbpjbnhhopohgaaW.PrintMore

theorem wf_lt {a : Int} (h : (Lit.int .i64 a).wf = true) : -9223372036854775808 ≤ a ∧ a < 9223372036854775808 := by
  have := bounds_i64 h
  omega
theorem shl_pow (W : Nat) (hW : W ≤ 60) : shl .i64 1 (W : Int) = ((2 ^ W : Nat) : Int) := by
  have hp : 2 ^ W ≤ 2 ^ 60 := Nat.pow_le_pow_right (by omega) hW
  unfold shl
  rw [Int.toNat_natCast, Nat.min_eq_left (by show W ≤ 64; omega), Int.one_mul, two_pow_int]
  exact gb_wrap _ (by omega)
theorem crc_Add_some (a b : ByteArray) (ha : a.size ≤ 1099511627776) : ∃ r, crc_Add.f a b = some r := by
  unfold crc_Add.f
  rw [if_pos ha]
  split <;> exact ⟨_, rfl⟩
theorem bits_back (s : ByteArray) (hb : bitsB s = true) : ∀ (d k : Nat), k = d → k ≤ s.size → (bitsL (bitsNum (s.data.toList.take k)) k).map (fun n => UInt8.ofNat n.toNat) = s.data.toList.take k
  | 0, k, hk, _ => by subst hk; rfl
  | d + 1, k, hk, hs => by
    subst hk
    have ih := bits_back s hb d d rfl (by omega)
    have hlt : d < s.size := by omega
    have hbit := bitsB_at hb d hlt
    rw [take_snoc s d hlt, bitsNum_snoc, bitsL_snoc, List.map_append, List.map_singleton]
    have h2 := bitN_lt s[d]
    rw [show (2 * bitsNum (s.data.toList.take d) + bitN s[d]) / 2 = bitsNum (s.data.toList.take d) by omega, ih, show (2 * bitsNum (s.data.toList.take d) + bitN s[d]) % 2 = bitN s[d] by omega]
    congr 2
    have h1 : s[d] = 48 ∨ s[d] = 49 := by simpa [isBit] using hbit
    rcases h1 with h1 | h1 <;> rw [h1] <;> rfl
theorem CrcBits : signalboxlaw07_CrcBits.Pure := by
  intro n W a b hn hw ha hb
  have hn' := wf_lt hn
  refine ⟨1000, ?_⟩
  unfold signalboxlaw07_CrcBits.f
  by_cases h : (a.size : Int) > 200
  · rw [if_pos h]; simp [signalboxlaw07_CrcBits.j0, alive07]
  · rw [if_neg h]
    by_cases h2 : (b.size : Int) > 200
    · simp [signalboxlaw07_CrcBits.j0, alive07, h2]
    · rw [decide_eq_false h2]
      obtain ⟨r, hr⟩ := crc_Add_some a b (by omega)
      have hbits : crc_Bits.f n W = some (if bitsOk n W then strOfNums (bitsL n.toNat W.toNat) else ⟨#[]⟩) := by
        unfold crc_Bits.f
        split
        · rw [if_pos hn'.2]
        · rfl
      simp only [signalboxlaw07_CrcBits.j0, Bool.false_eq_true, if_false]
      rw [ref07_number_f a (by omega) _ (by omega), ref07_bits_f n W _ (by omega) hn'.2, ref07_add_f a b (by omega) (by omega) _ (by omega), hbits, hr]
      obtain ⟨⟨m, is⟩, hm⟩ : ∃ r, crc_Number.f a = some r := ⟨_, rfl⟩
      rw [hm]
      simp only [Option.bind_some, if_true, bne_self_eq_false, Bool.false_eq_true, if_false, signalboxlaw07_CrcBits.j1]
      have last : ∀ k, signalboxlaw07_CrcBits.j2 (k + 1) n a (if bitsOk n W then strOfNums (bitsL n.toNat W.toNat) else ⟨#[]⟩) m is false = some true := by
        intro k
        simp only [signalboxlaw07_CrcBits.j2, Bool.false_eq_true, if_false]
        unfold crc_Number.f at hm
        cases hba : (bitsB a && decide (a.size ≤ 60)) with
        | false =>
          rw [hba] at hm
          simp at hm
          obtain ⟨rfl, rfl⟩ := hm
          simp [alive07]
        | true =>
          rw [hba] at hm
          simp at hm
          obtain ⟨rfl, rfl⟩ := hm
          rw [Bool.and_eq_true, decide_eq_true_eq] at hba
          have l1 := bitsNum_lt a.data.toList
          have l2 : bitsNum a.data.toList < 9223372036854775808 := by
            refine Nat.lt_of_lt_of_le l1 (Nat.le_trans (Nat.pow_le_pow_right (by omega) (?_ : _ ≤ 60)) (by decide))
            simp; omega
          have hb2 : crc_Bits.f ((bitsNum a.data.toList : Nat) : Int) (a.size : Int) = some (strOfNums (bitsL (bitsNum a.data.toList) a.size)) := by
            unfold crc_Bits.f
            rw [if_pos (by simp [bitsOk]; omega), if_pos (by omega)]
            rfl
          have hbk := bits_back a hba.1 a.size a.size rfl (Nat.le_refl _)
          rw [List.take_of_length_le (by simp)] at hbk
          have hl : (strOfNums (bitsL (bitsNum a.data.toList) a.size)) = a := by
            apply ByteArray.ext
            apply Array.ext'
            rw [strOfNums_data]
            exact hbk
          simp only [if_true, hb2, Option.bind_some, hl, alive07]
      by_cases h3 : n ≥ 0
      · rw [if_pos h3]
        by_cases h4 : W ≥ 0
        · rw [if_pos h4]
          by_cases h5 : W ≤ 60
          · rw [if_pos h5, if_pos h4]
            obtain ⟨w, rfl⟩ := Int.eq_ofNat_of_zero_le h4
            obtain ⟨x, rfl⟩ := Int.eq_ofNat_of_zero_le h3
            rw [shl_pow w (by omega)]
            by_cases h6 : (x : Int) < ((2 ^ w : Nat) : Int)
            · rw [decide_eq_true h6]
              have hok : bitsOk (x : Int) (w : Int) = true := by simp [bitsOk]; omega
              have hx : x < 2 ^ w := by omega
              have hnum : crc_Number.f (strOfNums (bitsL x w)) = some ((x : Int), true) := by
                unfold crc_Number.f
                rw [bitsL_bits, bitsL_num, strOfNums_size, bitsL_length, Nat.mod_eq_of_lt hx]
                simp
                omega
              simp only [signalboxlaw07_CrcBits.j2, if_true, hok, Int.toNat_natCast, hnum, Option.bind_some, alive07]
            · rw [decide_eq_false h6]
              exact last _
          · rw [if_neg h5]; exact last _
        · rw [if_neg h4]; exact last _
      · rw [if_neg h3]; exact last _
end Go.Proofs.Ytbpjbnhhopohgaa.Pure
