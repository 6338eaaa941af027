/- Plain facts on checks for the laws of layer 7: the example, linearity, a check's own bits behind it; no conditions beyond the widths. -/
import Derived.Test.YtbpjbnhhopohgaaPsignalboxlaw07alive
import Derived.Test.YtbpjbnhhopohgaaGRefSum
namespace Go.Proofs.Ytbpjbnhhopohgaa.P
open Go.RowKit Go.Proofs.YtbpjbnhhopohgaaW.PrintWords Go.Proofs.YtbpjbnhhopohgaaW.PrintLast Go.Proofs.YtbpjbnhhopohgaaW.PrintMore
set_option linter.unusedVariables false
set_option linter.unusedSimpArgs false

theorem alive07 : signalboxlaw07_alive.f = some true := by decide +kernel
theorem crcOk_iff (a1 a2 : Int) : crcOk a1 a2 = true ↔ ∃ W P : Nat, a1 = W ∧ a2 = P ∧ 1 ≤ W ∧ W ≤ 30 ∧ P < 2 ^ W := by
  simp only [crcOk, Bool.and_eq_true, decide_eq_true_eq]
  constructor
  · rintro ⟨⟨⟨h1, h2⟩, h3⟩, h4⟩
    obtain ⟨W, rfl⟩ := Int.eq_ofNat_of_zero_le (show 0 ≤ a1 by omega)
    obtain ⟨P, rfl⟩ := Int.eq_ofNat_of_zero_le h3
    rw [Int.toNat_natCast, two_pow_int] at h4
    exact ⟨W, P, rfl, rfl, by omega, by omega, by omega⟩
  · rintro ⟨W, P, rfl, rfl, h1, h2, h3⟩
    rw [Int.toNat_natCast, two_pow_int]
    omega
theorem crc_Sum_yes (s : ByteArray) (W P : Nat) (hb : bitsB s = true) (h1 : 1 ≤ W) (h2 : W ≤ 30) (h3 : P < 2 ^ W) : crc_Sum.f s (W : Int) (P : Int) = some (((crcN W P s.data.toList : Nat) : Int), true) := by
  unfold crc_Sum.f
  rw [hb, (crcOk_iff _ _).2 ⟨W, P, rfl, rfl, h1, h2, h3⟩]
  rfl
theorem crc_Sum_no (s : ByteArray) (a1 a2 : Int) (h : (bitsB s && crcOk a1 a2) = false) : crc_Sum.f s a1 a2 = some (0, false) := by
  unfold crc_Sum.f
  rw [h]
  rfl
/-- A check over bits from a number on. -/
def crcFrom (W P n : Nat) (l : List UInt8) : Nat := l.foldl (crcStep W P) n
theorem crcFrom_append (W P n : Nat) (l m : List UInt8) : crcFrom W P n (l ++ m) = crcFrom W P (crcFrom W P n l) m := by simp [crcFrom]
theorem crcN_append (W P : Nat) (l m : List UInt8) : crcN W P (l ++ m) = crcFrom W P (crcN W P l) m := by simp [crcN, crcFrom]
theorem crcFrom_lt (W P : Nat) (hP : P < 2 ^ W) (n : Nat) (hn : n < 2 ^ W) (l : List UInt8) : crcFrom W P n l < 2 ^ W := crcFold_lt W P hP l n hn
theorem bits_bytes (s : ByteArray) (hb : bitsB s = true) : ∀ b ∈ s.data.toList, isBit b = true := by
  unfold bitsB at hb
  rw [List.all_eq_true] at hb
  exact hb
theorem testBit_out (n W j : Nat) (hn : n < 2 ^ W) (hj : W ≤ j) : n.testBit j = false := Nat.testBit_lt_two_pow (Nat.lt_of_lt_of_le hn (Nat.pow_le_pow_right (by omega) hj))
/-- One step of two is a step of both. -/
theorem crcStep_xor (W P n m : Nat) (a b c : UInt8) (hW : 1 ≤ W) (hP : P < 2 ^ W) (hn : n < 2 ^ W) (hm : m < 2 ^ W) (hc : (c == 49) = ((a == 49) ^^ (b == 49))) :
    crcStep W P (n ^^^ m) c = crcStep W P n a ^^^ crcStep W P m b := by
  have hx : n ^^^ m < 2 ^ W := Nat.xor_lt_two_pow hn hm
  apply Nat.eq_of_testBit_eq
  intro j
  rw [Nat.testBit_xor]
  by_cases hj : j < W
  · rw [crcStep_bit W P _ c hW hx j hj, crcStep_bit W P n a hW hn j hj, crcStep_bit W P m b hW hm j hj, hc, Nat.testBit_xor, Nat.testBit_xor]
    generalize n.testBit (j - 1) = x1
    generalize m.testBit (j - 1) = x2
    generalize n.testBit (W - 1) = x3
    generalize m.testBit (W - 1) = x4
    cases decide (1 ≤ j) <;> cases x1 <;> cases x2 <;> cases x3 <;> cases x4 <;> cases (a == 49) <;> cases (b == 49) <;> cases P.testBit j <;> rfl
  · rw [testBit_out _ W j (crcStep_lt W P _ c hP) (by omega), testBit_out _ W j (crcStep_lt W P _ a hP) (by omega), testBit_out _ W j (crcStep_lt W P _ b hP) (by omega)]
    rfl
theorem crcFrom_xor (W P : Nat) (hW : 1 ≤ W) (hP : P < 2 ^ W) : ∀ (la lb lc : List UInt8) (n m : Nat), la.length = lb.length → lc.length = la.length → n < 2 ^ W → m < 2 ^ W →
    (∀ i (h1 : i < la.length) (h2 : i < lb.length) (h3 : i < lc.length), (lc[i] == 49) = ((la[i] == 49) ^^ (lb[i] == 49))) →
    crcFrom W P (n ^^^ m) lc = crcFrom W P n la ^^^ crcFrom W P m lb
  | [], lb, lc, n, m, hl, hl2, hn, hm, h => by
    obtain rfl : lb = [] := List.eq_nil_of_length_eq_zero hl.symm
    obtain rfl : lc = [] := List.eq_nil_of_length_eq_zero hl2
    rfl
  | a :: la, lb, lc, n, m, hl, hl2, hn, hm, h => by
    obtain ⟨b, lb, rfl⟩ : ∃ b l, lb = b :: l := by cases lb with | nil => simp at hl | cons b l => exact ⟨b, l, rfl⟩
    obtain ⟨c, lc, rfl⟩ : ∃ c l, lc = c :: l := by cases lc with | nil => simp at hl2 | cons c l => exact ⟨c, l, rfl⟩
    have h0 := h 0 (by simp) (by simp) (by simp)
    have ih := crcFrom_xor W P hW hP la lb lc (crcStep W P n a) (crcStep W P m b) (by simpa using hl) (by simpa using hl2) (crcStep_lt W P n a hP) (crcStep_lt W P m b hP) (fun i h1 h2 h3 => by
      have := h (i + 1) (by simp; omega) (by simp; omega) (by simp; omega)
      simpa using this)
    simp only [crcFrom, List.foldl_cons] at ih ⊢
    rw [crcStep_xor W P n m a b c hW hP hn hm (by simpa using h0), ih]
theorem unlike_49 (x y : UInt8) (hx : isBit x = true) (hy : isBit y = true) : (UInt8.ofNat (unlike x y).toNat == 49) = ((x == 49) ^^ (y == 49)) := by
  have h1 : x = 48 ∨ x = 49 := by simpa [isBit] using hx
  have h2 : y = 48 ∨ y = 49 := by simpa [isBit] using hy
  rcases h1 with rfl | rfl <;> rcases h2 with rfl | rfl <;> decide
theorem addL_bits (a b : List UInt8) : (strOfNums (addL a b)).data.toList.all isBit = true := by
  rw [strOfNums_data, List.all_eq_true]
  intro x hx
  obtain ⟨y, hy, rfl⟩ := List.mem_map.1 hx
  unfold addL at hy
  rw [List.mem_iff_getElem] at hy
  obtain ⟨i, hi, rfl⟩ := hy
  rw [List.getElem_zipWith]
  unfold unlike
  split <;> decide
/-- The check of a sum is the sum of the checks. -/
theorem crc_add (W P : Nat) (hW : 1 ≤ W) (hP : P < 2 ^ W) (a b : ByteArray) (ha : bitsB a = true) (hb : bitsB b = true) (hab : a.size = b.size) :
    crcN W P (strOfNums (addL a.data.toList b.data.toList)).data.toList = crcN W P a.data.toList ^^^ crcN W P b.data.toList := by
  have h := crcFrom_xor W P hW hP a.data.toList b.data.toList (strOfNums (addL a.data.toList b.data.toList)).data.toList 0 0 (by simpa using hab) (by
    rw [strOfNums_data, List.length_map, addL_length]; simp; omega) (Nat.two_pow_pos W) (Nat.two_pow_pos W) (fun i h1 h2 h3 => by
    have e : (strOfNums (addL a.data.toList b.data.toList)).data.toList[i] = UInt8.ofNat (unlike a.data.toList[i] b.data.toList[i]).toNat := by
      simp [strOfNums_data, addL]
    rw [e]
    exact unlike_49 _ _ (bits_bytes a ha _ (List.getElem_mem _)) (bits_bytes b hb _ (List.getElem_mem _)))
  exact h
end Go.Proofs.Ytbpjbnhhopohgaa.P
