/- Several texts of this session's own as one. -/
import Derived.Test.YthgnhhdblbiihaaPsignalboxref07Number
import Derived.Test.YthgnhhdblbiihaaPsignalboxref07Bits
import Derived.Test.YthgnhhdblbiihaaPsignalboxref07Right
import Derived.Test.YthgnhhdblbiihaaGCrcAll
import Derived.Test.YthgnhhdblbiihaaGBase
import Derived.Test.YthgnhhdblbiihaaGTreeAll
import Derived.LoopTactic
namespace Go.Proofs.Ythgnhhdblbiihaa.P
open Go.RowKit Go.Proofs.YthgnhhdblbiihaaW.PrintWords Go.Proofs.YthgnhhdblbiihaaW.PrintLast Go.Proofs.YthgnhhdblbiihaaW.PrintMore
set_option linter.unusedVariables false
set_option linter.unusedSimpArgs false

theorem isBit_bt (s : ByteArray) (i : Nat) (h : i < s.size) : isBit s[i] = (decide (bt s (i : Int) = 48) || decide (bt s (i : Int) = 49)) := by
  rw [bt_nat s i h, Bool.eq_iff_iff]
  simp only [isBit, Bool.or_eq_true, beq_iff_eq, decide_eq_true_eq, ← UInt8.toNat_inj]
  simp
  omega
theorem ref06_right_l (s : ByteArray) (hs : s.size ≤ 140737488351232) : ∀ (d k i : Nat), s.size - i = d → i ≤ s.size → d < k → (∀ j (hj : j < s.size), j < i → isBit s[j] = true) →
    signalboxref06_Right.l0 k s (i : Int) = some (bitsB s)
  | 0, k, i, hd, hi, hk, hall => by
    obtain ⟨k, rfl⟩ : ∃ m, k = m + 1 := ⟨k - 1, by omega⟩
    simp only [signalboxref06_Right.l0]
    rw [if_neg (by omega), bitsB_of (fun j hj => hall j hj (by omega))]
  | d + 1, k, i, hd, hi, hk, hall => by
    obtain ⟨k, rfl⟩ : ∃ m, k = m + 1 := ⟨k - 1, by omega⟩
    have hlt : i < s.size := by omega
    have ih := ref06_right_l s hs d k (i + 1) (by omega) (by omega) (by omega)
    simp only [signalboxref06_Right.l0]
    rw [if_pos (by omega), if_pos (by omega), wrap_succ i (by omega)]
    have hb := isBit_bt s i hlt
    by_cases h1 : bt s (i : Int) = 48
    · have hit : isBit s[i] = true := by rw [hb]; simp [h1]
      have := ih (fun j hj hji => by
        by_cases e : j = i
        · subst e; exact hit
        · exact hall j hj (by omega))
      rw [if_pos h1, this]
    · by_cases h2 : bt s (i : Int) = 49
      · have hit : isBit s[i] = true := by rw [hb]; simp [h2]
        have := ih (fun j hj hji => by
          by_cases e : j = i
          · subst e; exact hit
          · exact hall j hj (by omega))
        rw [if_neg h1, if_pos h2, this]
      · have hit : isBit s[i] = false := by rw [hb]; simp [h1, h2]
        rw [if_neg h1, if_neg h2, bitsB_not i hlt hit]
theorem ref06_right_f (s : ByteArray) (hs : s.size ≤ 140737488351232) (k : Nat) (hk : s.size < k) : signalboxref06_Right.f k s = some (bitsB s) :=
  ref06_right_l s hs s.size k 0 (by omega) (by omega) hk (fun j _ h => by omega)

theorem bt_bitN (s : ByteArray) (i : Nat) (h : i < s.size) (hb : isBit s[i] = true) : bt s (i : Int) = 48 + (bitN s[i] : Nat) := by
  rw [bt_nat s i h]
  have h1 : s[i] = 48 ∨ s[i] = 49 := by simpa [isBit] using hb
  rcases h1 with h1 | h1 <;> rw [h1] <;> rfl
theorem bitsNum_take_lt (s : ByteArray) (i : Nat) (h : i ≤ 60) : bitsNum (s.data.toList.take i) < 1152921504606846976 := by
  refine Nat.lt_of_lt_of_le (bitsNum_lt _) (Nat.le_trans (Nat.pow_le_pow_right (by omega) (?_ : _ ≤ 60)) (by decide))
  rw [List.length_take]; omega
theorem ref07_number_l (s : ByteArray) (hb : bitsB s = true) (hs : s.size ≤ 60) : ∀ (d k i : Nat), s.size - i = d → i ≤ s.size → d < k →
    signalboxref07_Number.l0 k s (bitsNum (s.data.toList.take i) : Nat) (i : Int) = some (((bitsNum s.data.toList : Nat) : Int), true)
  | 0, k, i, hd, hi, hk => by
    obtain ⟨k, rfl⟩ : ∃ m, k = m + 1 := ⟨k - 1, by omega⟩
    simp only [signalboxref07_Number.l0]
    rw [if_neg (by omega), List.take_of_length_le (by simp; omega)]
  | d + 1, k, i, hd, hi, hk => by
    obtain ⟨k, rfl⟩ : ∃ m, k = m + 1 := ⟨k - 1, by omega⟩
    have hlt : i < s.size := by omega
    have ih := ref07_number_l s hb hs d k (i + 1) (by omega) (by omega) (by omega)
    simp only [signalboxref07_Number.l0]
    rw [if_pos (by omega), if_pos (by omega), wrap_succ i (by omega), bt_bitN s i hlt (bitsB_at hb i hlt), ← ih, take_snoc s i hlt, bitsNum_snoc]
    have h1 := bitsNum_take_lt s i (by omega)
    have h2 := bitN_lt s[i]
    generalize bitsNum (s.data.toList.take i) = n at *
    generalize bitN s[i] = b at *
    rw [w64_small (2 * (n : Int)) (by omega) (by omega), w64_small (48 + (b : Int)) (by omega) (by omega), w64_small (2 * (n : Int) + (48 + (b : Int))) (by omega) (by omega),
      w64_small (2 * (n : Int) + (48 + (b : Int)) - 48) (by omega) (by omega), show 2 * (n : Int) + (48 + (b : Int)) - 48 = ((2 * n + b : Nat) : Int) from by omega]
theorem ref07_number_f (s : ByteArray) (hs : s.size ≤ 140737488351232) (k : Nat) (hk : s.size + 1 < k) : signalboxref07_Number.f k s = crc_Number.f s := by
  unfold signalboxref07_Number.f crc_Number.f
  obtain ⟨k, rfl⟩ : ∃ m, k = m + 1 := ⟨k - 1, by omega⟩
  rw [ref06_right_f s hs _ (by omega)]
  simp only [Option.bind_some, signalboxref07_Number.j0]
  cases hb : bitsB s with
  | false => simp
  | true =>
    by_cases h : s.size ≤ 60
    · have := ref07_number_l s hb h s.size k 0 (by omega) (by omega) (by omega)
      simp [bitsNum] at this
      simp [h, show ¬ (60 : Int) < s.size from by omega, this, bitsNum]
    · simp [h, show (60 : Int) < s.size from by omega]

theorem pow_le_30 (W : Nat) (h : W ≤ 30) : 2 ^ W ≤ 1073741824 := Nat.le_trans (Nat.pow_le_pow_right (by omega) h) (by decide)
theorem ref07_right_l (W : Nat) (P : Int) (hW : W ≤ 30) : ∀ (d k i : Nat), W - i = d → i ≤ W → d < k →
    signalboxref07_Right.l0 k (W : Int) P ((2 ^ i : Nat) : Int) (i : Int) = some (decide (P < ((2 ^ W : Nat) : Int)))
  | 0, k, i, hd, hi, hk => by
    obtain ⟨k, rfl⟩ : ∃ m, k = m + 1 := ⟨k - 1, by omega⟩
    simp only [signalboxref07_Right.l0]
    rw [if_neg (by omega), show i = W by omega]
  | d + 1, k, i, hd, hi, hk => by
    obtain ⟨k, rfl⟩ : ∃ m, k = m + 1 := ⟨k - 1, by omega⟩
    have ih := ref07_right_l W P hW d k (i + 1) (by omega) (by omega) (by omega)
    simp only [signalboxref07_Right.l0]
    have hp := pow_le_30 (i + 1) (by omega)
    have hq : 2 ^ (i + 1) = 2 * 2 ^ i := by rw [Nat.pow_succ]; omega
    rw [if_pos (by omega), wrap_succ i (by omega), ← ih, hq]
    congr 1
    rw [hq] at hp
    generalize 2 ^ i = q at *
    unfold wrap64
    omega
theorem two_pow_int (W : Nat) : ((2 : Int) ^ W) = ((2 ^ W : Nat) : Int) := by push_cast; rfl
theorem ref07_right_f (a0 a1 : Int) (k : Nat) (hk : 31 < k) : signalboxref07_Right.f k a0 a1 = some (crcOk a0 a1) := by
  obtain ⟨k, rfl⟩ : ∃ m, k = m + 1 := ⟨k - 1, by omega⟩
  unfold signalboxref07_Right.f crcOk
  by_cases h1 : a0 < 1
  · rw [if_pos h1]; simp [signalboxref07_Right.j0]; omega
  · rw [if_neg h1]
    by_cases h2 : a0 > 30
    · rw [if_pos h2]; simp [signalboxref07_Right.j0]; omega
    · rw [if_neg h2]
      by_cases h3 : a1 < 0
      · simp [signalboxref07_Right.j0, h3]; omega
      · obtain ⟨W, rfl⟩ := Int.eq_ofNat_of_zero_le (show 0 ≤ a0 by omega)
        have := ref07_right_l W a1 (by omega) W k 0 (by omega) (by omega) (by omega)
        simp only [signalboxref07_Right.j0]
        rw [if_neg (by simpa using h3)]
        simp only [Nat.pow_zero, Int.toNat_natCast, two_pow_int] at this ⊢
        rw [show ((1 : Nat) : Int) = 1 from rfl, show ((0 : Nat) : Int) = 0 from rfl] at this
        rw [this]
        congr 1
        rw [Bool.eq_iff_iff]
        simp
        omega

theorem bitsL_succ (n W : Nat) : bitsL n (W + 1) = (48 + (((n / 2 ^ W) % 2 : Nat) : Int)) :: bitsL n W := by
  unfold bitsL
  rw [List.range_succ_eq_map, List.map_cons, List.map_map]
  have e1 : bitAt n (W + 1) 0 = 48 + (((n / 2 ^ W) % 2 : Nat) : Int) := by simp [bitAt]
  rw [e1]
  congr 1
  refine List.map_congr_left fun j hj => ?_
  have hj := List.mem_range.1 hj
  simp only [bitAt, Function.comp, Nat.succ_eq_add_one]
  rw [show W + 1 - 1 - (j + 1) = W - 1 - j by omega]
theorem strOfNums_append (xs ys : List Int) : strOfNums (xs ++ ys) = strOfNums xs ++ strOfNums ys := by
  apply ByteArray.ext
  apply Array.ext'
  rw [ByteArray.data_append, Array.toList_append, strOfNums_data, strOfNums_data, strOfNums_data, List.map_append]
theorem ref07_bits_l (n W : Nat) (hW : W ≤ 60) (hn : n < 9223372036854775808) : ∀ (d k i : Nat), W - i = d → i ≤ W → d < k →
    signalboxref07_Bits.l0 k ((n / 2 ^ i : Nat) : Int) (W : Int) (strOfNums (bitsL n i)) (i : Int) = some (strOfNums (bitsL n W))
  | 0, k, i, hd, hi, hk => by
    obtain ⟨k, rfl⟩ : ∃ m, k = m + 1 := ⟨k - 1, by omega⟩
    simp only [signalboxref07_Bits.l0]
    rw [if_neg (by omega), show i = W by omega]
  | d + 1, k, i, hd, hi, hk => by
    obtain ⟨k, rfl⟩ : ∃ m, k = m + 1 := ⟨k - 1, by omega⟩
    have ih := ref07_bits_l n W hW hn d k (i + 1) (by omega) (by omega) (by omega)
    have hq : n / 2 ^ i < 9223372036854775808 := Nat.lt_of_le_of_lt (Nat.div_le_self _ _) hn
    have hq2 : n / 2 ^ (i + 1) = n / 2 ^ i / 2 := by rw [Nat.pow_succ, Nat.div_div_eq_div_mul]
    simp only [signalboxref07_Bits.l0, Option.bind_some]
    rw [if_pos (by omega), if_pos (by rw [strOfNums_size, strOfNums_size, bitsL_length]; simp; omega), wrap_succ i (by omega), ← ih, bitsL_succ, hq2, ← strOfNums_append]
    generalize n / 2 ^ i = q at *
    have e1 : Int.tdiv (q : Int) 2 = ((q / 2 : Nat) : Int) := by rw [Int.tdiv_eq_ediv_of_nonneg (by omega)]; omega
    have e2 : Int.tmod (q : Int) 2 = ((q % 2 : Nat) : Int) := by rw [Int.tmod_eq_emod_of_nonneg (by omega)]; omega
    have hq3 : q / 2 < 4611686018427387904 := by omega
    have hq4 : q % 2 < 2 := Nat.mod_lt _ (by omega)
    rw [e1, e2]
    generalize q / 2 = q1 at *
    generalize q % 2 = q2 at *
    rw [w64_small (q1 : Int) (by omega) (by omega), w64_small (48 + (q2 : Int)) (by omega) (by omega), show (48 + (q2 : Int)) % 256 = 48 + (q2 : Int) from by omega]
    rfl
theorem ref07_bits_f (a0 a1 : Int) (k : Nat) (hk : 61 < k) (h0 : a0 < 9223372036854775808) : signalboxref07_Bits.f k a0 a1 = crc_Bits.f a0 a1 := by
  obtain ⟨k, rfl⟩ : ∃ m, k = m + 1 := ⟨k - 1, by omega⟩
  unfold signalboxref07_Bits.f crc_Bits.f bitsOk
  by_cases h1 : a0 < 0
  · rw [if_pos h1]; simp [signalboxref07_Bits.j0, show ¬ (0 ≤ a0) from by omega]
  · rw [if_neg h1]
    by_cases h2 : a1 < 0
    · rw [if_pos h2]; simp [signalboxref07_Bits.j0, show ¬ (0 ≤ a1) from by omega]
    · rw [if_neg h2]
      by_cases h3 : a1 > 60
      · simp [signalboxref07_Bits.j0, h3, show ¬ (a1 ≤ 60) from by omega]
      · obtain ⟨W, rfl⟩ := Int.eq_ofNat_of_zero_le (show 0 ≤ a1 by omega)
        obtain ⟨n, rfl⟩ := Int.eq_ofNat_of_zero_le (show 0 ≤ a0 by omega)
        have := ref07_bits_l n W (by omega) (by omega) W k 0 (by omega) (by omega) (by omega)
        simp only [signalboxref07_Bits.j0]
        rw [if_neg (by simpa using h3)]
        rw [show n / 2 ^ 0 = n by simp, show strOfNums (bitsL n 0) = (⟨#[]⟩ : ByteArray) from rfl, show ((0 : Nat) : Int) = 0 from rfl] at this
        rw [this]
        simp [h0, show (W : Int) ≤ 60 from by omega]

end Go.Proofs.Ythgnhhdblbiihaa.P

namespace Go.Proofs.Ythgnhhdblbiihaa.P
open Go.RowKit Go.Proofs.YthgnhhdblbiihaaW.PrintWords Go.Proofs.YthgnhhdblbiihaaW.PrintLast Go.Proofs.YthgnhhdblbiihaaW.PrintMore
set_option linter.unusedVariables false
set_option linter.unusedSimpArgs false

def bI (b : Bool) : Int := if b then 49 else 48
def flipK (q : ByteArray) (i k : Nat) (l : List Int) : List Int := if bt q (k : Int) = 49 then l.set (i + k) ((97 - l.getD (i + k) 0) % 256) else l
def flipL (q : ByteArray) (i : Nat) (l : List Int) : Nat → List Int
  | 0 => l
  | k + 1 => flipK q i k (flipL q i l k)
def divK (q : ByteArray) (W i : Nat) (l : List Int) : List Int := if l.getD i 0 = 49 then flipL q i l (W + 1) else l
def divL (q : ByteArray) (W : Nat) (l : List Int) : Nat → List Int
  | 0 => l
  | i + 1 => divK q W i (divL q W l i)
def byOf (W P : Nat) : ByteArray := (⟨#[49]⟩ : ByteArray) ++ strOfNums (bitsL P W)

theorem flipK_length (q : ByteArray) (i k : Nat) (l : List Int) : (flipK q i k l).length = l.length := by unfold flipK; split <;> simp
theorem flipL_length (q : ByteArray) (i : Nat) (l : List Int) : ∀ k, (flipL q i l k).length = l.length
  | 0 => rfl
  | k + 1 => by rw [flipL, flipK_length, flipL_length q i l k]
theorem divK_length (q : ByteArray) (W i : Nat) (l : List Int) : (divK q W i l).length = l.length := by unfold divK; split <;> simp [flipL_length]
theorem divL_length (q : ByteArray) (W : Nat) (l : List Int) : ∀ i, (divL q W l i).length = l.length
  | 0 => rfl
  | i + 1 => by rw [divL, divK_length, divL_length q W l i]

theorem getD_set (l : List Int) (i j : Nat) (x : Int) (hi : i < l.length) : (l.set i x).getD j 0 = if j = i then x else l.getD j 0 := by
  by_cases e : j = i
  · subst e; simp [List.getD_eq_getElem?_getD, hi]
  · simp [List.getD_eq_getElem?_getD, List.getElem?_set_ne (show i ≠ j from fun h => e h.symm), e]
theorem flipL_getD (q : ByteArray) (i : Nat) (l : List Int) : ∀ (k : Nat), i + k ≤ l.length → ∀ j, (flipL q i l k).getD j 0 = if i ≤ j ∧ j < i + k ∧ bt q ((j - i : Nat) : Int) = 49 then (97 - l.getD j 0) % 256 else l.getD j 0
  | 0, h, j => by simp [flipL]; omega
  | k + 1, h, j => by
    have ih := flipL_getD q i l k (by omega)
    rw [flipL, flipK]
    by_cases hq : bt q (k : Int) = 49
    · rw [if_pos hq, getD_set _ _ _ _ (by rw [flipL_length]; omega)]
      by_cases e : j = i + k
      · subst e
        rw [if_pos rfl, ih, if_neg (by omega), if_pos ⟨by omega, by omega, by rw [show i + k - i = k by omega]; exact hq⟩]
      · rw [if_neg e, ih]
        by_cases c : i ≤ j ∧ j < i + k ∧ bt q ((j - i : Nat) : Int) = 49
        · rw [if_pos c, if_pos ⟨c.1, by omega, c.2.2⟩]
        · rw [if_neg c, if_neg (fun c2 => c ⟨c2.1, by omega, c2.2.2⟩)]
    · rw [if_neg hq, ih]
      by_cases c : i ≤ j ∧ j < i + k ∧ bt q ((j - i : Nat) : Int) = 49
      · rw [if_pos c, if_pos ⟨c.1, by omega, c.2.2⟩]
      · rw [if_neg c, if_neg (fun c2 => c ⟨c2.1, by
          rcases Nat.lt_or_ge j (i + k) with h | h
          · exact h
          · exfalso
            apply hq
            have : j - i = k := by omega
            rw [← this]
            exact c2.2.2, c2.2.2⟩)]

theorem strOfNums_bt (xs : List Int) (i : Nat) (h : i < xs.length) (hr : 0 ≤ xs.getD i 0 ∧ xs.getD i 0 < 256) : bt (strOfNums xs) (i : Int) = xs.getD i 0 := by
  have hs : i < (strOfNums xs).size := by rw [strOfNums_size]; exact h
  rw [bt_nat _ i hs]
  have e : (strOfNums xs)[i] = UInt8.ofNat (xs.getD i 0).toNat := by
    have h2 : (strOfNums xs).data.toList[i]? = some (UInt8.ofNat (xs.getD i 0).toNat) := by
      rw [strOfNums_data]
      simp [List.getD_eq_getElem?_getD, h]
    rw [Array.getElem?_toList] at h2
    have h3 := Array.getElem?_eq_some_iff.1 h2
    exact h3.2
  rw [e]
  have : (xs.getD i 0).toNat < 256 := by omega
  rw [UInt8.toNat_ofNat', Nat.mod_eq_of_lt (show _ < 2 ^ 8 from this)]
  omega
theorem bitAt_bit (n W i : Nat) : bitAt n W i = bI (n.testBit (W - 1 - i)) := by
  unfold bitAt bI
  rw [Nat.testBit_eq_decide_div_mod_eq]
  have : n / 2 ^ (W - 1 - i) % 2 < 2 := Nat.mod_lt _ (by omega)
  generalize n / 2 ^ (W - 1 - i) % 2 = q at *
  by_cases h : q = 1
  · subst h; rfl
  · have : q = 0 := by omega
    subst this; rfl
theorem bitsL_getD (n W i : Nat) (h : i < W) : (bitsL n W).getD i 0 = bI (n.testBit (W - 1 - i)) := by
  rw [← bitAt_bit]
  simp [bitsL, List.getD_eq_getElem?_getD, h]
theorem bI_range (b : Bool) : 0 ≤ bI b ∧ bI b < 256 := by cases b <;> decide
theorem bI_49 (b : Bool) : bI b = 49 ↔ b = true := by cases b <;> decide
theorem bI_flip (b : Bool) : (97 - bI b) % 256 = bI (!b) := by cases b <;> decide
theorem byOf_size (W P : Nat) : (byOf W P).size = W + 1 := by
  unfold byOf
  rw [ByteArray.size_append, strOfNums_size, bitsL_length]
  show 1 + W = W + 1
  omega
theorem byOf_eq (W P : Nat) : byOf W P = strOfNums (49 :: bitsL P W) := by
  unfold byOf
  rw [show (49 :: bitsL P W) = [49] ++ bitsL P W from rfl, strOfNums_append]
  rfl
theorem byOf_bt (W P k : Nat) (hk : k ≤ W) : bt (byOf W P) (k : Int) = bI (decide (k = 0) || P.testBit (W - k)) := by
  rw [byOf_eq]
  cases k with
  | zero => rw [strOfNums_bt _ 0 (by simp) (by simp)]; rfl
  | succ k =>
    have h1 : (49 :: bitsL P W).getD (k + 1) 0 = bI (P.testBit (W - (k + 1))) := by
      rw [List.getD_cons_succ, bitsL_getD P W k (by omega), show W - 1 - k = W - (k + 1) by omega]
    rw [strOfNums_bt _ (k + 1) (by simp [bitsL_length]; omega) (by rw [h1]; exact bI_range _), h1]
    simp

theorem crcStep_bit (W P n : Nat) (b : UInt8) (hW : 1 ≤ W) (hn : n < 2 ^ W) (j : Nat) (hj : j < W) :
    (crcStep W P n b).testBit j = (((decide (1 ≤ j) && n.testBit (j - 1))) ^^ ((n.testBit (W - 1) ^^ (b == 49)) && P.testBit j)) := by
  have hh : decide (n / 2 ^ (W - 1) = 1) = n.testBit (W - 1) := by
    rw [Nat.testBit_eq_decide_div_mod_eq]
    have : n / 2 ^ (W - 1) < 2 := by
      obtain ⟨V, rfl⟩ : ∃ V, W = V + 1 := ⟨W - 1, by omega⟩
      rw [Nat.div_lt_iff_lt_mul (Nat.two_pow_pos _), show V + 1 - 1 = V by omega]
      rw [Nat.pow_succ] at hn
      omega
    rw [Nat.mod_eq_of_lt this]
  have h2 : ((2 * n) % 2 ^ W).testBit j = (decide (1 ≤ j) && n.testBit (j - 1)) := by
    rw [Nat.testBit_mod_two_pow, show 2 * n = 2 ^ 1 * n by omega, Nat.testBit_two_pow_mul]
    simp [hj]
  unfold crcStep
  rw [hh]
  cases n.testBit (W - 1) <;> cases (b == 49) <;> simp [Nat.testBit_xor, h2]

structure DivInv (W P : Nat) (s : ByteArray) (i : Nat) (l : List Int) : Prop where
  len : l.length = s.size + W
  far : ∀ j, i + W ≤ j → j < s.size + W → l.getD j 0 = if j < s.size then bI ((bytesOf s).getD j 0 == 49) else 48
  near : ∀ m, m < W → l.getD (i + m) 0 = bI ((decide (i + m < s.size) && ((bytesOf s).getD (i + m) 0 == 49)) ^^ (crcN W P (s.data.toList.take i)).testBit (W - 1 - m))

theorem bytesOf_getD (s : ByteArray) (i : Nat) (h : i < s.size) : (bytesOf s).getD i 0 = (s[i].toNat : Int) := by
  have h' : i < s.data.size := h
  simp [bytesOf, List.getD_eq_getElem?_getD, Array.getElem?_eq_getElem h']
  rfl
theorem bytesOf_49 (s : ByteArray) (i : Nat) (h : i < s.size) : ((bytesOf s).getD i 0 == 49) = (s[i] == 49) := by
  rw [bytesOf_getD s i h, Bool.eq_iff_iff, beq_iff_eq, beq_iff_eq, ← UInt8.toNat_inj]
  simp
  omega
theorem bytesOf_bI (s : ByteArray) (hb : bitsB s = true) (i : Nat) (h : i < s.size) : (bytesOf s).getD i 0 = bI (s[i] == 49) := by
  rw [bytesOf_getD s i h]
  have h1 : s[i] = 48 ∨ s[i] = 49 := by simpa [isBit] using bitsB_at hb i h
  rcases h1 with h1 | h1 <;> rw [h1] <;> rfl
theorem div_start (W P : Nat) (s : ByteArray) (hb : bitsB s = true) : DivInv W P s 0 (bytesOf s ++ List.replicate W 48) := by
  have hg : ∀ j, j < s.size + W → (bytesOf s ++ List.replicate W 48).getD j 0 = if j < s.size then bI ((bytesOf s).getD j 0 == 49) else 48 := by
    intro j hj
    by_cases h : j < s.size
    · rw [if_pos h, bytesOf_49 s j h, ← bytesOf_bI s hb j h]
      simp [List.getD_eq_getElem?_getD, List.getElem?_append_left (show j < (bytesOf s).length by rw [bytesOf_length]; exact h)]
    · rw [if_neg h]
      simp [List.getD_eq_getElem?_getD, List.getElem?_append_right (show (bytesOf s).length ≤ j by rw [bytesOf_length]; omega), bytesOf_length, show j - s.size < W by omega]
  refine ⟨by simp [bytesOf_length], fun j _ h => hg j h, fun m hm => ?_⟩
  rw [Nat.zero_add, hg m (by omega)]
  by_cases h : m < s.size
  · rw [if_pos h]; simp [h, crcN]
  · rw [if_neg h]; simp [h, crcN, bI]
theorem div_step (W P : Nat) (s : ByteArray) (hb : bitsB s = true) (hW : 1 ≤ W) (hP : P < 2 ^ W) (i : Nat) (hi : i < s.size) (l : List Int) (h : DivInv W P s i l) : DivInv W P s (i + 1) (divK (byOf W P) W i l) := by
  obtain ⟨hlen, hfar, hnear⟩ := h
  have hn := crcN_lt W P hP (s.data.toList.take i)
  have ht := take_snoc s i hi
  generalize hc : crcN W P (s.data.toList.take i) = n at *
  have hc' : crcN W P (s.data.toList.take (i + 1)) = crcStep W P n s[i] := by rw [ht, crcN_snoc, hc]
  have h0 := hnear 0 (by omega)
  rw [Nat.add_zero, bytesOf_49 s i hi] at h0
  simp only [hi, decide_true, Bool.true_and, Nat.sub_zero] at h0
  -- what was there, behind place i
  have hold : ∀ m, m < W → l.getD (i + 1 + m) 0 = bI ((decide (i + 1 + m < s.size) && ((bytesOf s).getD (i + 1 + m) 0 == 49)) ^^ (decide (1 ≤ W - 1 - m) && n.testBit (W - 1 - m - 1))) := by
    intro m hm
    by_cases e : m + 1 < W
    · have := hnear (m + 1) e
      rw [show i + (m + 1) = i + 1 + m by omega, show W - 1 - (m + 1) = W - 1 - m - 1 by omega] at this
      rw [this]
      simp [show 1 ≤ W - 1 - m by omega]
    · have := hfar (i + 1 + m) (by omega) (by omega)
      rw [this, show W - 1 - m = 0 by omega]
      by_cases h : i + 1 + m < s.size
      · rw [if_pos h]; simp [h]
      · rw [if_neg h]; simp [h, bI]
  have hnew : ∀ j, i < j → j ≤ i + W → (divK (byOf W P) W i l).getD j 0 = if (n.testBit (W - 1) ^^ (s[i] == 49)) && P.testBit (W - (j - i)) then (97 - l.getD j 0) % 256 else l.getD j 0 := by
    intro j h1 h2
    unfold divK
    by_cases hx : l.getD i 0 = 49
    · have ht2 : (n.testBit (W - 1) ^^ (s[i] == 49)) = true := by
        rw [h0, bI_49] at hx
        rw [Bool.xor_comm]; exact hx
      rw [if_pos hx, flipL_getD _ _ _ (W + 1) (by omega), ht2]
      simp only [byOf_bt W P (j - i) (by omega), bI_49]
      simp [show i ≤ j by omega, show j < i + (W + 1) by omega, show ¬ (j - i = 0) by omega]
    · have ht2 : (n.testBit (W - 1) ^^ (s[i] == 49)) = false := by
        rw [h0, bI_49] at hx
        rw [Bool.xor_comm]; simpa using hx
      rw [if_neg hx, ht2]
      simp
  refine ⟨by rw [divK_length]; exact hlen, fun j h1 h2 => ?_, fun m hm => ?_⟩
  · have hk : (divK (byOf W P) W i l).getD j 0 = l.getD j 0 := by
      unfold divK
      split
      · rw [flipL_getD _ _ _ (W + 1) (by omega), if_neg (by omega)]
      · rfl
    rw [hk]
    exact hfar j (by omega) h2
  · rw [hnew (i + 1 + m) (by omega) (by omega), hold m hm, hc', crcStep_bit W P n s[i] hW hn (W - 1 - m) (by omega), bI_flip, show W - (i + 1 + m - i) = W - 1 - m by omega]
    generalize (decide (i + 1 + m < s.size) && ((bytesOf s).getD (i + 1 + m) 0 == 49)) = p
    generalize (decide (1 ≤ W - 1 - m) && n.testBit (W - 1 - m - 1)) = r
    cases (n.testBit (W - 1) ^^ (s[i] == 49)) <;> cases P.testBit (W - 1 - m) <;> cases p <;> cases r <;> rfl
theorem div_all (W P : Nat) (s : ByteArray) (hb : bitsB s = true) (hW : 1 ≤ W) (hP : P < 2 ^ W) : ∀ i, i ≤ s.size → DivInv W P s i (divL (byOf W P) W (bytesOf s ++ List.replicate W 48) i)
  | 0, _ => div_start W P s hb
  | i + 1, h => div_step W P s hb hW hP i (by omega) _ (div_all W P s hb hW hP i (by omega))
theorem list_getD_ext (a b : List Int) (hl : a.length = b.length) (h : ∀ i, i < a.length → a.getD i 0 = b.getD i 0) : a = b := by
  apply List.ext_getElem hl
  intro i h1 h2
  have := h i h1
  simpa [List.getD_eq_getElem?_getD, h1, h2] using this
theorem div_end (W P : Nat) (s : ByteArray) (hb : bitsB s = true) (hW : 1 ≤ W) (hP : P < 2 ^ W) :
    (divL (byOf W P) W (bytesOf s ++ List.replicate W 48) s.size).drop s.size = bitsL (crcN W P s.data.toList) W := by
  obtain ⟨hlen, _, hnear⟩ := div_all W P s hb hW hP s.size (Nat.le_refl _)
  apply list_getD_ext
  · rw [List.length_drop, hlen, bitsL_length]; omega
  · intro m hm
    rw [List.length_drop, hlen] at hm
    have h1 := hnear m (by omega)
    rw [bitsL_getD _ _ _ (by omega)]
    rw [List.take_of_length_le (by simp)] at h1
    have h2 : ∀ (l : List Int), (l.drop s.size).getD m 0 = l.getD (s.size + m) 0 := fun l => by simp [List.getD_eq_getElem?_getD, List.getElem?_drop]
    rw [h2, h1, show decide (s.size + m < s.size) = false from decide_eq_false (by omega), Bool.false_and, Bool.false_xor]
/-- The number of a number's bits. -/
theorem bitsL_snoc (n W : Nat) : bitsL n (W + 1) = bitsL (n / 2) W ++ [48 + ((n % 2 : Nat) : Int)] := by
  apply list_getD_ext
  · simp [bitsL_length]
  · intro i hi
    rw [bitsL_length] at hi
    rw [bitsL_getD _ _ _ hi]
    by_cases h : i < W
    · have : ((bitsL (n / 2) W ++ [48 + ((n % 2 : Nat) : Int)]).getD i 0) = (bitsL (n / 2) W).getD i 0 := by
        simp [List.getD_eq_getElem?_getD, List.getElem?_append_left (show i < (bitsL (n / 2) W).length by rw [bitsL_length]; exact h)]
      rw [this, bitsL_getD _ _ _ h, Nat.testBit_div_two, show W + 1 - 1 - i = W - 1 - i + 1 by omega]
    · obtain rfl : i = W := by omega
      have : ((bitsL (n / 2) i ++ [48 + ((n % 2 : Nat) : Int)]).getD i 0) = 48 + ((n % 2 : Nat) : Int) := by
        simp [List.getD_eq_getElem?_getD, List.getElem?_append_right (show (bitsL (n / 2) i).length ≤ i by rw [bitsL_length]; omega), bitsL_length]
      rw [this, show i + 1 - 1 - i = 0 by omega, Nat.testBit_zero]
      rcases Nat.mod_two_eq_zero_or_one n with h | h <;> simp [h, bI]
theorem bitsL_bits (n W : Nat) : bitsB (strOfNums (bitsL n W)) = true := by
  unfold bitsB
  rw [strOfNums_data, List.all_eq_true]
  intro x hx
  obtain ⟨y, hy, rfl⟩ := List.mem_map.1 hx
  obtain ⟨i, hi, rfl⟩ := List.mem_map.1 hy
  rw [bitAt_bit]
  cases (n.testBit (W - 1 - i)) <;> decide
theorem bitsL_num : ∀ (W n : Nat), bitsNum (strOfNums (bitsL n W)).data.toList = n % 2 ^ W
  | 0, n => by simp [bitsL, strOfNums, bitsNum, Nat.mod_one]
  | W + 1, n => by
    have ih := bitsL_num W (n / 2)
    rw [strOfNums_data] at ih ⊢
    rw [bitsL_snoc, List.map_append, List.map_singleton, bitsNum_snoc, ih]
    have h1 : bitN (UInt8.ofNat (48 + ((n % 2 : Nat) : Int)).toNat) = n % 2 := by
      rcases Nat.mod_two_eq_zero_or_one n with h | h <;> rw [h] <;> rfl
    rw [h1, Nat.pow_succ, Nat.mul_comm (2 ^ W) 2, Nat.mod_mul]
    omega
end Go.Proofs.Ythgnhhdblbiihaa.P

namespace Go.Proofs.Ythgnhhdblbiihaa.P
open Go.RowKit Go.Proofs.YthgnhhdblbiihaaW.PrintWords Go.Proofs.YthgnhhdblbiihaaW.PrintLast Go.Proofs.YthgnhhdblbiihaaW.PrintMore
set_option linter.unusedVariables false
set_option linter.unusedSimpArgs false

def signalboxref07_Sum.f (a0 : ByteArray) (a1 a2 : Int) : Option (Int × Bool) := if a0.size ≤ 1099511627776 then crc_Sum.f a0 a1 a2 else none

set_option maxHeartbeats 4000000 in
set_option maxRecDepth 100000 in
theorem ref07_sum_walk (s : ByteArray) (W P : Nat) (w : World) (hs : s.size ≤ 1099511627776) (hb : bitsB s = true) (hW : 1 ≤ W) (hW2 : W ≤ 30) (hP : P < 2 ^ W) :
    Calls Try.prog 42 #[.string s, .int .i64 W, .int .i64 P] w fun e w' => e = .returned (.tuple #[.int .i64 (crcN W P s.data.toList : Nat), .bool true]) ∧ Below w.heap.size w w' := by
  have HS := Aside0.mk (fun W' : World => signalboxref06_Right.calls (s.size + 1) s true W' (by rw [ref06_right_f s (by omega) _ (by omega), hb]))
  have hok : crcOk (W : Int) (P : Int) = true := by
    simp only [crcOk, Int.toNat_natCast, two_pow_int, Bool.and_eq_true, decide_eq_true_eq]
    omega
  have HK := Aside0.mk (fun W' : World => signalboxref07_Right.calls 32 (W : Int) (P : Int) true W' (by rw [ref07_right_f _ _ _ (by omega), hok]))
  have HB := Aside0.mk (fun W' : World => signalboxref07_Bits.calls 62 (P : Int) (W : Int) (strOfNums (bitsL P W)) W' (by
    have hp := pow_le_30 W hW2
    rw [ref07_bits_f _ _ _ (by omega) (by omega)]
    unfold crc_Bits.f
    rw [if_pos (by simp [bitsOk]; omega), if_pos (by omega)]
    rfl))
  clear hok
  have kb := fun W' => print_bytes (P := Try.prog) 9 29 5 Try.underlying9 Try.underlying29 Try.underlying5 s W'
  go_enter Try.func42, Try.ntmps42
  go_wp2_with (first | (go_at_call 56; refine (HS.out _).mono ?_; rintro e w1 ⟨rfl, hb1⟩) | (go_at_call 57; refine (HK.out _).mono ?_; rintro e w2 ⟨rfl, hb2⟩))
  have hz2 : w.heap.size ≤ w2.heap.size := Nat.le_trans hb1.below.size hb2.below.size
  have HB3 : Aside0 (Below w.heap.size w (Lib.bytesWorld w2 5 s)) := ⟨bytes_below (below_step hb1.below hb2.below) hz2 5 s⟩
  have HR3 : Aside0 (RowB (Lib.bytesWorld w2 5 s) w.heap.size w2.heap.size s.size (grownCap w2 s.size 0 5) (bytesOf s)) := ⟨RowB.of_bytes w2 5 s hz2 (by omega)⟩
  generalize Lib.bytesWorld w2 5 s = w3 at *
  generalize grownCap w2 s.size 0 5 = cap0 at *
  clear hb1 hb2
  go_loopw [8, 9] (fun v i wr => ∃ j g cap : Nat, j ≤ W ∧ i = .int .i64 j ∧ v = .slice (some ⟨g, 0, none⟩) (s.size + j) cap ∧ Aside0 (RowB wr w.heap.size g (s.size + j) cap (bytesOf s ++ List.replicate j 48)) ∧ Aside0 (Below w.heap.size w wr)) (fun _ i _ => W - (intOf i).toNat)
  case atStart => exact ⟨0, w2.heap.size, cap0, Nat.zero_le _, rfl, rfl, ⟨by simpa using HR3.out⟩, HB3⟩
  case round =>
    clear HR3 HB3
    obtain ⟨j, g, cap, hj, rfl, rfl, HR, HBw⟩ := hrel
    by_cases hlt : j < W
    · go_wp2_with (at_builtin; refine rowB_append (w0 := w) w.heap.size rfl (.tmp 31) (.tmp 32) 29 5 rfl Try.underlying29 ginfo_u8 g (s.size + j) cap (bytesOf s ++ List.replicate j 48) 48 rfl rfl HR.out HBw.out ?a1 ?_)
      case a1 => omega
      intro g1 cap1 w1 hR1 hB1
      have HR1 : Aside0 (RowB w1 w.heap.size g1 (s.size + (j + 1)) cap1 (bytesOf s ++ List.replicate (j + 1) 48)) := ⟨by
        rw [List.replicate_succ']
        first | exact hR1 | (rw [List.append_assoc] at hR1; exact hR1)⟩
      have HB1 := Aside0.mk hB1
      clear hR1 hB1
      go_wp2
      go_roundw
      case rel => exact ⟨j + 1, g1, cap1, by omega, by go_num, rfl, HR1, HB1⟩
      case measure => simp [intOf]; omega
    · obtain rfl : W = j := by omega
      have hq : (strOfNums (bitsL P W)).size ≤ 100 := by rw [strOfNums_size, bitsL_length]; omega
      go_wp2_with (go_at_call 41; refine (HB.out _).mono ?_; rintro e w4 ⟨rfl, hb4⟩)
      rw [show (⟨#[49]⟩ : ByteArray) ++ strOfNums (bitsL P W) = byOf W P from rfl]
      have HR4 : Aside0 (RowB w4 w.heap.size g (s.size + W) cap (divL (byOf W P) W (bytesOf s ++ List.replicate W 48) 0)) := ⟨HR.out.below hb4⟩
      have HB4 : Aside0 (Below w.heap.size w w4) := ⟨below_step HBw.out hb4⟩
      have hqs := byOf_size W P
      have HQS := Aside0.mk hqs
      obtain ⟨q, hqe⟩ : ∃ q, q = byOf W P := ⟨_, rfl⟩
      rw [← hqe] at HQS HR4 ⊢
      have HQ := Aside0.mk hqe
      clear hqe hqs hq HR HBw hb4 HB HK HS kb
      go_loopw [11] (fun i wr => ∃ m : Nat, m ≤ s.size ∧ i = .int .i64 m ∧ Aside0 (RowB wr w.heap.size g (s.size + W) cap (divL q W (bytesOf s ++ List.replicate W 48) m)) ∧ Aside0 (Below w.heap.size w wr)) (fun i _ => s.size - (intOf i).toNat)
      case atStart => exact ⟨0, Nat.zero_le _, rfl, HR4, HB4⟩
      case round =>
        clear HR4 HB4
        obtain ⟨wo, hwo⟩ : ∃ wo : World, wo = wr := ⟨_, rfl⟩
        subst hwo
        obtain ⟨m, hm, rfl, HR, HBw⟩ := hrel
        by_cases hlt : m < s.size
        · obtain ⟨L, hL⟩ : ∃ L, L = divL q W (bytesOf s ++ List.replicate W 48) m := ⟨_, rfl⟩
          have HL := Aside0.mk hL
          rw [← hL] at HR
          clear hL
          have hc := HR.out.cell m (by omega)
          have HN : Aside0 (divL q W (bytesOf s ++ List.replicate W 48) (m + 1) = divK q W m L) := ⟨by rw [HL.out]; rfl⟩
          obtain ⟨x, hx⟩ : ∃ x, x = L.getD m 0 := ⟨_, rfl⟩
          rw [← hx] at hc
          by_cases hx49 : x = 49
          · have ht : (x == 49) = true := by rw [hx49]; rfl
            have HN2 : Aside0 (divK q W m L = flipL q m L (W + 1)) := ⟨by unfold divK; rw [if_pos (by rw [← hx]; exact hx49)]⟩
            clear hx hx49
            go_wp2
            go_loopw [12] (fun kk wr => ∃ k : Nat, k ≤ W + 1 ∧ kk = .int .i64 k ∧ Aside0 (RowB wr w.heap.size g (s.size + W) cap (flipL q m L k)) ∧ Aside0 (Below w.heap.size w wr)) (fun kk _ => W + 1 - (intOf kk).toNat)
            case atStart => exact ⟨0, Nat.zero_le _, rfl, ⟨HR.out⟩, HBw⟩
            case round =>
              clear HR HBw hc
              obtain ⟨k, hk, rfl, HR, HBw⟩ := hrel
              by_cases hlk : k ≤ W
              · have hkq : k < q.size := by rw [HQS.out]; omega
                have HF : Aside0 (flipL q m L (k + 1) = flipK q m k (flipL q m L k)) := ⟨rfl⟩
                have hc := HR.out.cell (m + k) (by omega)
                have hfz := (HR.out.free (m + k) (by have := HR.out.hcap; omega)).2
                obtain ⟨y, hy⟩ : ∃ y, y = (flipL q m L k).getD (m + k) 0 := ⟨_, rfl⟩
                rw [← hy] at hc
                have HY := Aside0.mk hy
                clear hy
                by_cases hb49 : bt q (k : Int) = 49
                · have ht2 : (((q[k]'hkq).toNat : Int) == 49) = true := by rw [← bt_nat q k hkq, hb49]; rfl
                  have HF2 : Aside0 (flipK q m k (flipL q m L k) = (flipL q m L k).set (m + k) ((97 - y) % 256)) := ⟨by unfold flipK; rw [if_pos hb49, HY.out]⟩
                  have HR2 : Aside0 (RowB (wr.setCell ⟨g, m + k, none⟩ (.int .u8 ((97 - y) % 256))) w.heap.size g (s.size + W) cap (flipL q m L (k + 1))) := ⟨by rw [HF.out, HF2.out]; exact HR.out.set (m + k) (by omega) _⟩
                  have HB2 : Aside0 (Below w.heap.size w (wr.setCell ⟨g, m + k, none⟩ (.int .u8 ((97 - y) % 256)))) := ⟨HBw.out.setCell HR.out.hle _⟩
                  clear hb49 HF HF2
                  go_wp2
                  go_roundw
                  case rel => exact ⟨k + 1, by omega, by go_num, HR2, HB2⟩
                  case measure => simp [intOf]; omega
                · have ht2 : (((q[k]'hkq).toNat : Int) == 49) = false := by rw [← bt_nat q k hkq]; simpa using hb49
                  have HF2 : Aside0 (flipK q m k (flipL q m L k) = flipL q m L k) := ⟨by unfold flipK; rw [if_neg hb49]⟩
                  clear hb49
                  go_wp2
                  go_roundw
                  case rel => exact ⟨k + 1, by omega, by go_num, ⟨by rw [HF.out, HF2.out]; exact HR.out⟩, HBw⟩
                  case measure => simp [intOf]; omega
              · obtain rfl : W + 1 = k := by omega
                go_wp2
                go_roundw
                case rel => exact ⟨m + 1, by omega, by go_num, ⟨by rw [HN.out, HN2.out]; exact HR.out⟩, HBw⟩
                case measure => simp [intOf]; omega
          · have ht : (x == 49) = false := by simpa using hx49
            have HN2 : Aside0 (divK q W m L = L) := ⟨by unfold divK; rw [if_neg (by rw [← hx]; exact hx49)]⟩
            clear hx hx49
            go_wp2
            go_roundw
            case rel => exact ⟨m + 1, by omega, by go_num, ⟨by rw [HN.out, HN2.out]; exact HR.out⟩, HBw⟩
            case measure => simp [intOf]; omega
        · obtain rfl : s.size = m := by omega
          have hcp := HR.out.hcap
          have HE : Aside0 ((divL q W (bytesOf s ++ List.replicate W 48) s.size).drop s.size = bitsL (crcN W P s.data.toList) W) := ⟨by rw [HQ.out]; exact div_end W P s hb hW hP⟩
          have hdr := HR.out.drop_reads s.size (by omega) (by omega)
          rw [HE.out, show s.size + W - s.size = W by omega] at hdr
          have hcv := string_of_reads (P := Try.prog) (c := cap - s.size) Try.underlying29 Try.underlying5 Try.underlying9 hdr
          have HNUM := Aside0.mk (fun W' : World => signalboxref07_Number.calls (W + 2) (strOfNums (bitsL (crcN W P s.data.toList) W)) (crcN W P s.data.toList : Nat) true W' (by
            have hl : (strOfNums (bitsL (crcN W P s.data.toList) W)).size = W := by rw [strOfNums_size, bitsL_length]
            rw [ref07_number_f _ (by omega) _ (by omega)]
            unfold crc_Number.f
            rw [bitsL_bits, bitsL_num, hl, Nat.mod_eq_of_lt (crcN_lt W P hP _)]
            simp
            omega))
          clear HE HQ hdr
          go_wp2_with (go_at_call 58; refine (HNUM.out _).mono ?_; rintro e w5 ⟨rfl, hb5⟩)
          go_ret2
          exact ⟨rfl, below_step HBw.out hb5.below⟩

set_option maxHeartbeats 1000000 in
set_option maxRecDepth 100000 in
theorem signalboxref07_Sum.calls (a0 : ByteArray) (a1 a2 : Int) (r1 : Int) (r2 : Bool) (w : World) (h : signalboxref07_Sum.f a0 a1 a2 = some (r1, r2)) :
    Calls Try.prog 42 #[.string a0, .int .i64 a1, .int .i64 a2] w fun e w' => e = .returned (.tuple #[.int .i64 r1, .bool r2]) ∧ Below w.heap.size w w' := by
  unfold signalboxref07_Sum.f at h
  by_cases hs : a0.size ≤ 1099511627776
  · rw [if_pos hs] at h
    unfold crc_Sum.f at h
    have HS := Aside0.mk (fun W' : World => signalboxref06_Right.calls (a0.size + 1) a0 (bitsB a0) W' (by rw [ref06_right_f a0 (by omega) _ (by omega)]))
    have HK := Aside0.mk (fun W' : World => signalboxref07_Right.calls 32 a1 a2 (crcOk a1 a2) W' (ref07_right_f _ _ _ (by omega)))
    cases hb : bitsB a0 with
    | false =>
      rw [hb] at h HS
      simp at h
      obtain ⟨rfl, rfl⟩ := h
      clear hb HK
      go_enter Try.func42, Try.ntmps42
      go_wp2_with (go_at_call 56; refine (HS.out _).mono ?_; rintro e w1 ⟨rfl, hb1⟩)
      go_ret2
      exact ⟨rfl, hb1.below⟩
    | true =>
      rw [hb] at h HS
      cases hk : crcOk a1 a2 with
      | false =>
        rw [hk] at h HK
        simp at h
        obtain ⟨rfl, rfl⟩ := h
        clear hb hk
        go_enter Try.func42, Try.ntmps42
        go_wp2_with (first | (go_at_call 56; refine (HS.out _).mono ?_; rintro e w1 ⟨rfl, hb1⟩) | (go_at_call 57; refine (HK.out _).mono ?_; rintro e w2 ⟨rfl, hb2⟩))
        go_ret2
        exact ⟨rfl, below_step hb1.below hb2.below⟩
      | true =>
        rw [hk] at h
        simp at h
        obtain ⟨rfl, rfl⟩ := h
        simp only [crcOk, Bool.and_eq_true, decide_eq_true_eq] at hk
        obtain ⟨⟨⟨h1, h2⟩, h3⟩, h4⟩ := hk
        obtain ⟨W, rfl⟩ := Int.eq_ofNat_of_zero_le (show 0 ≤ a1 by omega)
        obtain ⟨P, rfl⟩ := Int.eq_ofNat_of_zero_le h3
        rw [Int.toNat_natCast, two_pow_int] at h4
        exact ref07_sum_walk a0 W P w hs hb (by omega) (by omega) (by omega)
  · rw [if_neg hs] at h
    cases h
end Go.Proofs.Ythgnhhdblbiihaa.P
