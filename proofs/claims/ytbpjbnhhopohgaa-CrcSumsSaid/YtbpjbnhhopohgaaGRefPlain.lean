/- What the printed functions of the references 06 and 07 answer, in closed form; no conditions but enough rounds. -/
import Derived.Test.YtbpjbnhhopohgaaPsignalboxref07Number
import Derived.Test.YtbpjbnhhopohgaaPsignalboxref07Bits
import Derived.Test.YtbpjbnhhopohgaaPsignalboxref07Right
import Derived.Test.YtbpjbnhhopohgaaPsignalboxref07Add
import Derived.Test.YtbpjbnhhopohgaaGSum
import Derived.Test.YtbpjbnhhopohgaaGCBits
import Derived.Test.YtbpjbnhhopohgaaGAdd
namespace Go.Proofs.Ytbpjbnhhopohgaa.P
open Go.RowKit Go.Proofs.YtbpjbnhhopohgaaW.PrintWords Go.Proofs.YtbpjbnhhopohgaaW.PrintLast Go.Proofs.YtbpjbnhhopohgaaW.PrintMore
set_option linter.unusedVariables false
set_option linter.unusedSimpArgs false

theorem bt_nat (s : ByteArray) (i : Nat) (h : i < s.size) : bt s (i : Int) = (s[i].toNat : Int) := by
  unfold bt
  simp [h]
theorem isBit_bt (s : ByteArray) (i : Nat) (h : i < s.size) : isBit s[i] = (decide (bt s (i : Int) = 48) || decide (bt s (i : Int) = 49)) := by
  rw [bt_nat s i h, Bool.eq_iff_iff]
  simp only [isBit, Bool.or_eq_true, beq_iff_eq, decide_eq_true_eq, ← UInt8.toNat_inj]
  simp
  omega
theorem w64_small (x : Int) (h0 : -4611686018427387904 ≤ x) (h1 : x ≤ 4611686018427387904) : wrap64 x = x := by
  unfold wrap64; omega
theorem wrap_succ (i : Nat) (h : i < 9223372036854775807) : wrap64 ((i : Int) + 1) = ((i + 1 : Nat) : Int) := by
  unfold wrap64; omega
theorem ref06_right_l (s : ByteArray) (hs : s.size ≤ 140737488351232) : ∀ (d k i : Nat), s.size - i = d → i ≤ s.size → d < k → (∀ j (hj : j < s.size), j < i → isBit s[j] = true) →
    signalboxref06_Right.l0 k s (i : Int) = some (bitsB s)
  | 0, k, i, hd, hi, hk, hall => by
    obtain ⟨k, rfl⟩ : ∃ m, k = m + 1 := ⟨k - 1, by omega⟩
    simp only [signalboxref06_Right.l0]
    rw [if_neg (by omega), bitsB_of (fun j hj => hall j hj (by omega))]
  | d + 1, k, i, hd, hi, hk, hall => by
    obtain ⟨k, rfl⟩ : ∃ m, k = m + 1 := ⟨k - 1, by omega⟩
    have hlt : i < s.size := by omega
    have ih := ref06_right_l s hs d k (i + 1) (by omega) (by omega) (by omega)
    simp only [signalboxref06_Right.l0]
    rw [if_pos (by omega), if_pos (by omega), wrap_succ i (by omega)]
    have hb := isBit_bt s i hlt
    by_cases h1 : bt s (i : Int) = 48
    · have hit : isBit s[i] = true := by rw [hb]; simp [h1]
      have := ih (fun j hj hji => by
        by_cases e : j = i
        · subst e; exact hit
        · exact hall j hj (by omega))
      rw [if_pos h1, this]
    · by_cases h2 : bt s (i : Int) = 49
      · have hit : isBit s[i] = true := by rw [hb]; simp [h2]
        have := ih (fun j hj hji => by
          by_cases e : j = i
          · subst e; exact hit
          · exact hall j hj (by omega))
        rw [if_neg h1, if_pos h2, this]
      · have hit : isBit s[i] = false := by rw [hb]; simp [h1, h2]
        rw [if_neg h1, if_neg h2, bitsB_not i hlt hit]
theorem ref06_right_f (s : ByteArray) (hs : s.size ≤ 140737488351232) (k : Nat) (hk : s.size < k) : signalboxref06_Right.f k s = some (bitsB s) :=
  ref06_right_l s hs s.size k 0 (by omega) (by omega) hk (fun j _ h => by omega)

theorem bt_bitN (s : ByteArray) (i : Nat) (h : i < s.size) (hb : isBit s[i] = true) : bt s (i : Int) = 48 + (bitN s[i] : Nat) := by
  rw [bt_nat s i h]
  have h1 : s[i] = 48 ∨ s[i] = 49 := by simpa [isBit] using hb
  rcases h1 with h1 | h1 <;> rw [h1] <;> rfl
theorem bitsNum_take_lt (s : ByteArray) (i : Nat) (h : i ≤ 60) : bitsNum (s.data.toList.take i) < 1152921504606846976 := by
  refine Nat.lt_of_lt_of_le (bitsNum_lt _) (Nat.le_trans (Nat.pow_le_pow_right (by omega) (?_ : _ ≤ 60)) (by decide))
  rw [List.length_take]; omega
theorem ref07_number_l (s : ByteArray) (hb : bitsB s = true) (hs : s.size ≤ 60) : ∀ (d k i : Nat), s.size - i = d → i ≤ s.size → d < k →
    signalboxref07_Number.l0 k s (bitsNum (s.data.toList.take i) : Nat) (i : Int) = some (((bitsNum s.data.toList : Nat) : Int), true)
  | 0, k, i, hd, hi, hk => by
    obtain ⟨k, rfl⟩ : ∃ m, k = m + 1 := ⟨k - 1, by omega⟩
    simp only [signalboxref07_Number.l0]
    rw [if_neg (by omega), List.take_of_length_le (by simp; omega)]
  | d + 1, k, i, hd, hi, hk => by
    obtain ⟨k, rfl⟩ : ∃ m, k = m + 1 := ⟨k - 1, by omega⟩
    have hlt : i < s.size := by omega
    have ih := ref07_number_l s hb hs d k (i + 1) (by omega) (by omega) (by omega)
    simp only [signalboxref07_Number.l0]
    rw [if_pos (by omega), if_pos (by omega), wrap_succ i (by omega), bt_bitN s i hlt (bitsB_at hb i hlt), ← ih, take_snoc s i hlt, bitsNum_snoc]
    have h1 := bitsNum_take_lt s i (by omega)
    have h2 := bitN_lt s[i]
    generalize bitsNum (s.data.toList.take i) = n at *
    generalize bitN s[i] = b at *
    rw [w64_small (2 * (n : Int)) (by omega) (by omega), w64_small (48 + (b : Int)) (by omega) (by omega), w64_small (2 * (n : Int) + (48 + (b : Int))) (by omega) (by omega),
      w64_small (2 * (n : Int) + (48 + (b : Int)) - 48) (by omega) (by omega), show 2 * (n : Int) + (48 + (b : Int)) - 48 = ((2 * n + b : Nat) : Int) from by omega]
theorem ref07_number_f (s : ByteArray) (hs : s.size ≤ 140737488351232) (k : Nat) (hk : s.size + 1 < k) : signalboxref07_Number.f k s = crc_Number.f s := by
  unfold signalboxref07_Number.f crc_Number.f
  obtain ⟨k, rfl⟩ : ∃ m, k = m + 1 := ⟨k - 1, by omega⟩
  rw [ref06_right_f s hs _ (by omega)]
  simp only [Option.bind_some, signalboxref07_Number.j0]
  cases hb : bitsB s with
  | false => simp
  | true =>
    by_cases h : s.size ≤ 60
    · have := ref07_number_l s hb h s.size k 0 (by omega) (by omega) (by omega)
      simp [bitsNum] at this
      simp [h, show ¬ (60 : Int) < s.size from by omega, this, bitsNum]
    · simp [h, show (60 : Int) < s.size from by omega]

theorem pow_le_30 (W : Nat) (h : W ≤ 30) : 2 ^ W ≤ 1073741824 := Nat.le_trans (Nat.pow_le_pow_right (by omega) h) (by decide)
theorem ref07_right_l (W : Nat) (P : Int) (hW : W ≤ 30) : ∀ (d k i : Nat), W - i = d → i ≤ W → d < k →
    signalboxref07_Right.l0 k (W : Int) P ((2 ^ i : Nat) : Int) (i : Int) = some (decide (P < ((2 ^ W : Nat) : Int)))
  | 0, k, i, hd, hi, hk => by
    obtain ⟨k, rfl⟩ : ∃ m, k = m + 1 := ⟨k - 1, by omega⟩
    simp only [signalboxref07_Right.l0]
    rw [if_neg (by omega), show i = W by omega]
  | d + 1, k, i, hd, hi, hk => by
    obtain ⟨k, rfl⟩ : ∃ m, k = m + 1 := ⟨k - 1, by omega⟩
    have ih := ref07_right_l W P hW d k (i + 1) (by omega) (by omega) (by omega)
    simp only [signalboxref07_Right.l0]
    have hp := pow_le_30 (i + 1) (by omega)
    have hq : 2 ^ (i + 1) = 2 * 2 ^ i := by rw [Nat.pow_succ]; omega
    rw [if_pos (by omega), wrap_succ i (by omega), ← ih, hq]
    congr 1
    rw [hq] at hp
    generalize 2 ^ i = q at *
    unfold wrap64
    omega
theorem two_pow_int (W : Nat) : ((2 : Int) ^ W) = ((2 ^ W : Nat) : Int) := by push_cast; rfl
theorem ref07_right_f (a0 a1 : Int) (k : Nat) (hk : 31 < k) : signalboxref07_Right.f k a0 a1 = some (crcOk a0 a1) := by
  obtain ⟨k, rfl⟩ : ∃ m, k = m + 1 := ⟨k - 1, by omega⟩
  unfold signalboxref07_Right.f crcOk
  by_cases h1 : a0 < 1
  · rw [if_pos h1]; simp [signalboxref07_Right.j0]; omega
  · rw [if_neg h1]
    by_cases h2 : a0 > 30
    · rw [if_pos h2]; simp [signalboxref07_Right.j0]; omega
    · rw [if_neg h2]
      by_cases h3 : a1 < 0
      · simp [signalboxref07_Right.j0, h3]; omega
      · obtain ⟨W, rfl⟩ := Int.eq_ofNat_of_zero_le (show 0 ≤ a0 by omega)
        have := ref07_right_l W a1 (by omega) W k 0 (by omega) (by omega) (by omega)
        simp only [signalboxref07_Right.j0]
        rw [if_neg (by simpa using h3)]
        simp only [Nat.pow_zero, Int.toNat_natCast, two_pow_int] at this ⊢
        rw [show ((1 : Nat) : Int) = 1 from rfl, show ((0 : Nat) : Int) = 0 from rfl] at this
        rw [this]
        congr 1
        rw [Bool.eq_iff_iff]
        simp
        omega

theorem bitsL_succ (n W : Nat) : bitsL n (W + 1) = (48 + (((n / 2 ^ W) % 2 : Nat) : Int)) :: bitsL n W := by
  unfold bitsL
  rw [List.range_succ_eq_map, List.map_cons, List.map_map]
  have e1 : bitAt n (W + 1) 0 = 48 + (((n / 2 ^ W) % 2 : Nat) : Int) := by simp [bitAt]
  rw [e1]
  congr 1
  refine List.map_congr_left fun j hj => ?_
  have hj := List.mem_range.1 hj
  simp only [bitAt, Function.comp, Nat.succ_eq_add_one]
  rw [show W + 1 - 1 - (j + 1) = W - 1 - j by omega]
theorem strOfNums_append (xs ys : List Int) : strOfNums (xs ++ ys) = strOfNums xs ++ strOfNums ys := by
  apply ByteArray.ext
  apply Array.ext'
  rw [ByteArray.data_append, Array.toList_append, strOfNums_data, strOfNums_data, strOfNums_data, List.map_append]
theorem ref07_bits_l (n W : Nat) (hW : W ≤ 60) (hn : n < 9223372036854775808) : ∀ (d k i : Nat), W - i = d → i ≤ W → d < k →
    signalboxref07_Bits.l0 k ((n / 2 ^ i : Nat) : Int) (W : Int) (strOfNums (bitsL n i)) (i : Int) = some (strOfNums (bitsL n W))
  | 0, k, i, hd, hi, hk => by
    obtain ⟨k, rfl⟩ : ∃ m, k = m + 1 := ⟨k - 1, by omega⟩
    simp only [signalboxref07_Bits.l0]
    rw [if_neg (by omega), show i = W by omega]
  | d + 1, k, i, hd, hi, hk => by
    obtain ⟨k, rfl⟩ : ∃ m, k = m + 1 := ⟨k - 1, by omega⟩
    have ih := ref07_bits_l n W hW hn d k (i + 1) (by omega) (by omega) (by omega)
    have hq : n / 2 ^ i < 9223372036854775808 := Nat.lt_of_le_of_lt (Nat.div_le_self _ _) hn
    have hq2 : n / 2 ^ (i + 1) = n / 2 ^ i / 2 := by rw [Nat.pow_succ, Nat.div_div_eq_div_mul]
    simp only [signalboxref07_Bits.l0, Option.bind_some]
    rw [if_pos (by omega), if_pos (by rw [strOfNums_size, strOfNums_size, bitsL_length]; simp; omega), wrap_succ i (by omega), ← ih, bitsL_succ, hq2, ← strOfNums_append]
    generalize n / 2 ^ i = q at *
    have e1 : Int.tdiv (q : Int) 2 = ((q / 2 : Nat) : Int) := by rw [Int.tdiv_eq_ediv_of_nonneg (by omega)]; omega
    have e2 : Int.tmod (q : Int) 2 = ((q % 2 : Nat) : Int) := by rw [Int.tmod_eq_emod_of_nonneg (by omega)]; omega
    have hq3 : q / 2 < 4611686018427387904 := by omega
    have hq4 : q % 2 < 2 := Nat.mod_lt _ (by omega)
    rw [e1, e2]
    generalize q / 2 = q1 at *
    generalize q % 2 = q2 at *
    rw [w64_small (q1 : Int) (by omega) (by omega), w64_small (48 + (q2 : Int)) (by omega) (by omega), show (48 + (q2 : Int)) % 256 = 48 + (q2 : Int) from by omega]
    rfl
theorem ref07_bits_f (a0 a1 : Int) (k : Nat) (hk : 61 < k) (h0 : a0 < 9223372036854775808) : signalboxref07_Bits.f k a0 a1 = crc_Bits.f a0 a1 := by
  obtain ⟨k, rfl⟩ : ∃ m, k = m + 1 := ⟨k - 1, by omega⟩
  unfold signalboxref07_Bits.f crc_Bits.f bitsOk
  by_cases h1 : a0 < 0
  · rw [if_pos h1]; simp [signalboxref07_Bits.j0, show ¬ (0 ≤ a0) from by omega]
  · rw [if_neg h1]
    by_cases h2 : a1 < 0
    · rw [if_pos h2]; simp [signalboxref07_Bits.j0, show ¬ (0 ≤ a1) from by omega]
    · rw [if_neg h2]
      by_cases h3 : a1 > 60
      · simp [signalboxref07_Bits.j0, h3, show ¬ (a1 ≤ 60) from by omega]
      · obtain ⟨W, rfl⟩ := Int.eq_ofNat_of_zero_le (show 0 ≤ a1 by omega)
        obtain ⟨n, rfl⟩ := Int.eq_ofNat_of_zero_le (show 0 ≤ a0 by omega)
        have := ref07_bits_l n W (by omega) (by omega) W k 0 (by omega) (by omega) (by omega)
        simp only [signalboxref07_Bits.j0]
        rw [if_neg (by simpa using h3)]
        rw [show n / 2 ^ 0 = n by simp, show strOfNums (bitsL n 0) = (⟨#[]⟩ : ByteArray) from rfl, show ((0 : Nat) : Int) = 0 from rfl] at this
        rw [this]
        simp [h0, show (W : Int) ≤ 60 from by omega]

theorem addL_snoc' (a b : ByteArray) (k : Nat) (ha : k < a.size) (hb : k < b.size) :
    strOfNums (addL (a.data.toList.take (k + 1)) (b.data.toList.take (k + 1))) = strOfNums (addL (a.data.toList.take k) (b.data.toList.take k)) ++ strOfNums [unlike a[k] b[k]] := by
  rw [addL_snoc a b k ha hb, strOfNums_append]
theorem ref07_add_l (a b : ByteArray) (hab : a.size = b.size) (hs : a.size ≤ 1099511627776) : ∀ (d k i : Nat), a.size - i = d → i ≤ a.size → d < k →
    signalboxref07_Add.l0 k a b (strOfNums (addL (a.data.toList.take i) (b.data.toList.take i))) (i : Int) = some (strOfNums (addL a.data.toList b.data.toList))
  | 0, k, i, hd, hi, hk => by
    obtain ⟨k, rfl⟩ : ∃ m, k = m + 1 := ⟨k - 1, by omega⟩
    simp only [signalboxref07_Add.l0]
    rw [if_neg (by omega), List.take_of_length_le (by simp; omega), List.take_of_length_le (by simp; omega)]
  | d + 1, k, i, hd, hi, hk => by
    obtain ⟨k, rfl⟩ : ∃ m, k = m + 1 := ⟨k - 1, by omega⟩
    have ha : i < a.size := by omega
    have hb : i < b.size := by omega
    have ih := ref07_add_l a b hab hs d k (i + 1) (by omega) (by omega) (by omega)
    have hl : (strOfNums (addL (a.data.toList.take i) (b.data.toList.take i))).size = i := by rw [strOfNums_size, addL_length]; simp; omega
    simp only [signalboxref07_Add.l0]
    rw [if_pos (by omega), if_pos (by omega), if_pos (by omega), wrap_succ i (by omega), ← ih, addL_snoc' a b i ha hb, bt_nat a i ha, bt_nat b i hb]
    have hl2 : (strOfNums (addL (a.data.toList.take i) (b.data.toList.take i))).size + 1 ≤ 9223372036854775807 := by rw [hl]; omega
    simp only [if_pos hl2]
    unfold unlike
    by_cases e : a[i] = b[i]
    · rw [if_pos e, if_pos (by rw [e])]; rfl
    · rw [if_neg e, if_neg (fun e2 => e (UInt8.toNat_inj.1 (by omega)))]; rfl
theorem ref07_add_f (a b : ByteArray) (ha : a.size ≤ 1099511627776) (hb : b.size ≤ 1099511627776) (k : Nat) (hk : a.size + b.size + 1 < k) : signalboxref07_Add.f k a b = crc_Add.f a b := by
  obtain ⟨k, rfl⟩ : ∃ m, k = m + 1 := ⟨k - 1, by omega⟩
  unfold signalboxref07_Add.f crc_Add.f
  rw [ref06_right_f a (by omega) _ (by omega), ref06_right_f b (by omega) _ (by omega)]
  cases h1 : bitsB a <;> cases h2 : bitsB b <;> simp [signalboxref07_Add.j0]
  by_cases h : a.size = b.size
  · have := ref07_add_l a b h ha a.size k 0 (by omega) (by omega) (by omega)
    simp [addL] at this
    rw [show strOfNums [] = (⟨#[]⟩ : ByteArray) from rfl] at this
    simp [h, addL, this, show b.size ≤ 1099511627776 from hb]
  · have : ¬ ((a.size : Int) = b.size) := by omega
    simp [h, this]
end Go.Proofs.Ytbpjbnhhopohgaa.P
