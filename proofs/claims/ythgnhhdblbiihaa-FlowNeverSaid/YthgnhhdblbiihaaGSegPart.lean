/- The parts of layer 35: a part written, a part read, the parts of a message read. -/
import Derived.Test.YthgnhhdblbiihaaPsegRead
import Derived.Test.YthgnhhdblbiihaaPsegWrite
import Derived.Test.YthgnhhdblbiihaaGSplit
import Derived.Test.YthgnhhdblbiihaaGBase
namespace Go.Proofs.Ythgnhhdblbiihaa.P
open Go.RowKit Go.Proofs.YthgnhhdblbiihaaW.PrintWords Go.Proofs.YthgnhhdblbiihaaW.PrintLast Go.Proofs.YthgnhhdblbiihaaW.PrintMore
set_option linter.unusedVariables false
set_option linter.unusedSimpArgs false

def writeP (K n : Int) (d : ByteArray) : ByteArray × Int :=
  if K = 0 ∧ 1 ≤ d.size ∧ d.size ≤ 7 ∧ n = d.size then (byte1 d.size ++ d, 0)
  else if K = 1 ∧ d.size = 6 ∧ 7 < n ∧ n ≤ 4095 then (byte1 (16 + n.toNat / 256) ++ byte1 (n.toNat % 256) ++ d, 0)
  else if K = 2 ∧ 1 ≤ d.size ∧ d.size ≤ 7 ∧ 0 ≤ n ∧ n < 16 then (byte1 (32 + n.toNat) ++ d, 0)
  else if K = 3 ∧ d.size = 2 ∧ 0 ≤ n ∧ n ≤ 2 then (byte1 (48 + n.toNat) ++ d, 0)
  else (⟨#[]⟩, 3)
theorem seg_Write_f (k : Nat) (K n : Int) (d : ByteArray) : seg_Write.f (k + 1) K n d = some (writeP K n d) := by
  unfold seg_Write.f seg_Write.j0 seg_Write.j1 writeP
  by_cases h0 : K = 0
  · subst h0
    simp only [reduceCtorEq, if_true, true_and, false_and, if_false, show ((0 : Int) = 1) = False from by decide, show ((0 : Int) = 2) = False from by decide, show ((0 : Int) = 3) = False from by decide]
    by_cases h1 : 1 ≤ d.size
    · by_cases h2 : d.size ≤ 7
      · by_cases h3 : n = d.size
        · have hm := mark_eq 0 d.size (by omega) (by omega)
          rw [if_pos (by omega), if_pos (by omega), if_pos (by simp [h3]), show ((0 : Nat) : Int) = 0 from rfl] at *
          rw [hm, if_pos ⟨h1, h2, h3⟩]
          show (if (byte1 (16 * 0 + d.size)).size + d.size ≤ 9223372036854775807 then _ else _) = _
          rw [byte1_size, if_pos (by omega)]
          simp
        · simp [h1, h2, h3, show ((d.size : Int) ≥ 1) from by omega, show ((d.size : Int) ≤ 7) from by omega]
      · simp [h1, h2, show ((d.size : Int) ≥ 1) from by omega, show ¬ ((d.size : Int) ≤ 7) from by omega]
    · simp [h1, show ¬ ((d.size : Int) ≥ 1) from by omega]
  · rw [if_neg h0]
    by_cases h1 : K = 1
    · subst h1
      simp only [if_true, true_and, false_and, if_false, show ((1 : Int) = 0) = False from by decide, show ((1 : Int) = 2) = False from by decide, show ((1 : Int) = 3) = False from by decide]
      by_cases h2 : d.size = 6
      · by_cases h3 : 7 < n
        · by_cases h4 : n ≤ 4095
          · obtain ⟨m, rfl⟩ := Int.eq_ofNat_of_zero_le (show 0 ≤ n by omega)
            have hm := mark_eq 1 (m / 256) (by omega) (by omega)
            rw [if_pos (by omega), if_pos (by omega), if_pos (by omega), if_pos ⟨h2, h3, h4⟩, show ((m : Int) / 256) = ((m / 256 : Nat) : Int) from by omega, show ((1 : Int)) = ((1 : Nat) : Int) from rfl, hm]
            show (if (byte1 (16 * 1 + m / 256)).size + (byte1 (m % 256)).size ≤ 9223372036854775807 then (if (byte1 (16 * 1 + m / 256) ++ byte1 (m % 256)).size + d.size ≤ 9223372036854775807 then some (byte1 (16 * 1 + m / 256) ++ byte1 (m % 256) ++ d, (0 : Int)) else none) else none) = _
            rw [ByteArray.size_append, byte1_size, byte1_size, if_pos (by omega), if_pos (by omega)]
            simp
          · simp [h2, h3, h4]
        · simp [h2, h3]
      · simp [h2, show ¬ ((d.size : Int) = 6) from by omega]
    · rw [if_neg h1]
      by_cases h2 : K = 2
      · subst h2
        simp only [if_true, true_and, false_and, if_false, show ((2 : Int) = 0) = False from by decide, show ((2 : Int) = 1) = False from by decide, show ((2 : Int) = 3) = False from by decide]
        by_cases h3 : 1 ≤ d.size
        · by_cases h4 : d.size ≤ 7
          · by_cases h5 : 0 ≤ n
            · by_cases h6 : n < 16
              · obtain ⟨m, rfl⟩ := Int.eq_ofNat_of_zero_le h5
                have hm := mark_eq 2 m (by omega) (by omega)
                rw [if_pos (by omega), if_pos (by omega), if_pos (by omega), if_pos (by simp; omega), if_pos ⟨h3, h4, h5, h6⟩, show ((2 : Int)) = ((2 : Nat) : Int) from rfl, hm]
                show (if (byte1 (16 * 2 + m)).size + d.size ≤ 9223372036854775807 then _ else _) = _
                rw [byte1_size, if_pos (by omega)]
                simp
              · simp [h3, h4, h5, h6, show ((d.size : Int) ≥ 1) from by omega, show ((d.size : Int) ≤ 7) from by omega]
            · simp [h3, h4, h5, show ((d.size : Int) ≥ 1) from by omega, show ((d.size : Int) ≤ 7) from by omega]
          · simp [h3, h4, show ((d.size : Int) ≥ 1) from by omega, show ¬ ((d.size : Int) ≤ 7) from by omega]
        · simp [h3, show ¬ ((d.size : Int) ≥ 1) from by omega]
      · rw [if_neg h2]
        by_cases h3 : K = 3
        · subst h3
          simp only [if_true, true_and, false_and, if_false, show ((3 : Int) = 0) = False from by decide, show ((3 : Int) = 1) = False from by decide, show ((3 : Int) = 2) = False from by decide]
          by_cases h4 : d.size = 2
          · by_cases h5 : 0 ≤ n
            · by_cases h6 : n ≤ 2
              · obtain ⟨m, rfl⟩ := Int.eq_ofNat_of_zero_le h5
                have hm := mark_eq 3 m (by omega) (by omega)
                rw [if_pos (by omega), if_pos (by omega), if_pos (by omega), if_pos ⟨h4, h5, h6⟩, show ((3 : Int)) = ((3 : Nat) : Int) from rfl, hm]
                show (if (byte1 (16 * 3 + m)).size + d.size ≤ 9223372036854775807 then _ else _) = _
                rw [byte1_size, if_pos (by omega)]
                simp
              · simp [h4, h5, h6]
            · simp [h4, h5]
          · simp [h4, show ¬ ((d.size : Int) = 2) from by omega]
        · simp [h0, h1, h2, h3]
def readP (s : ByteArray) : Int × Int × ByteArray × Bool :=
  if s.size = 0 then (0, 0, ⟨#[]⟩, false)
  else if 0 < bt s 0 ∧ bt s 0 < 8 ∧ (s.size : Int) = bt s 0 + 1 then (0, bt s 0, s.extract 1 s.size, true)
  else if 16 ≤ bt s 0 ∧ bt s 0 < 32 ∧ s.size = 8 ∧ 8 ≤ (bt s 0 - 16) * 256 + bt s 1 then (1, (bt s 0 - 16) * 256 + bt s 1, s.extract 2 s.size, true)
  else if 32 ≤ bt s 0 ∧ bt s 0 < 48 ∧ 2 ≤ s.size ∧ s.size ≤ 8 then (2, bt s 0 - 32, s.extract 1 s.size, true)
  else if 48 ≤ bt s 0 ∧ bt s 0 ≤ 50 ∧ s.size = 3 then (3, bt s 0 - 48, s.extract 1 s.size, true)
  else (0, 0, ⟨#[]⟩, false)
theorem write_read (s : ByteArray) (h : (readP s).2.2.2 = true) : writeP (readP s).1 (readP s).2.1 (readP s).2.2.1 = (s, 0) := by
  have r0 := bt_lt s 0
  have r1 := bt_lt s 1
  unfold readP at h ⊢
  split
  · rename_i c; simp [c] at h
  rename_i c0
  have e1 : (s.extract 1 s.size).size = s.size - 1 := by rw [ba_extract_size]; omega
  have e2 : (s.extract 2 s.size).size = s.size - 2 := by rw [ba_extract_size]; omega
  have ph := part_head s (by omega)
  split
  · rename_i c
    dsimp only
    unfold writeP
    rw [if_pos ⟨rfl, by omega, by omega, by omega⟩, e1, show s.size - 1 = (bt s 0).toNat from by omega, ph]
  rename_i c1
  split
  · rename_i c
    dsimp only
    unfold writeP
    rw [if_neg (by omega), if_pos ⟨rfl, by omega, by omega, by omega⟩]
    rw [show 16 + ((bt s 0 - 16) * 256 + bt s 1).toNat / 256 = (bt s 0).toNat from by omega, show ((bt s 0 - 16) * 256 + bt s 1).toNat % 256 = (bt s 1).toNat from by omega, part_head2 s (by omega)]
  rename_i c2
  split
  · rename_i c
    dsimp only
    unfold writeP
    rw [if_neg (by omega), if_neg (by omega), if_pos ⟨rfl, by omega, by omega, by omega⟩, show 32 + (bt s 0 - 32).toNat = (bt s 0).toNat from by omega, ph]
  rename_i c3
  split
  · rename_i c
    dsimp only
    unfold writeP
    rw [if_neg (by omega), if_neg (by omega), if_neg (by omega), if_pos ⟨rfl, by omega, by omega⟩, show 48 + (bt s 0 - 48).toNat = (bt s 0).toNat from by omega, ph]
  rename_i c4
  simp [c0, c1, c2, c3, c4] at h
theorem u8_and_15 : ∀ c : Fin 256, Go.bits .and .u8 ((c.val : Nat) : Int) 15 = ((c.val % 16 : Nat) : Int) := by decide +kernel
theorem bits_and_u8 (x : Int) (h0 : 0 ≤ x) (h1 : x < 256) : Go.bits .and .u8 x 15 = x % 16 := by
  obtain ⟨n, rfl⟩ := Int.eq_ofNat_of_zero_le h0
  have := u8_and_15 ⟨n, by omega⟩
  rw [show ((n : Int) % 16) = ((n % 16 : Nat) : Int) from by omega]
  exact this
theorem bits_or_256 (x y : Int) (h0 : 0 ≤ x) (h1 : x < 16) (h2 : 0 ≤ y) (h3 : y < 256) : Go.bits .or .i64 (x * 256) y = x * 256 + y := by
  obtain ⟨n, rfl⟩ := Int.eq_ofNat_of_zero_le h0
  obtain ⟨m, rfl⟩ := Int.eq_ofNat_of_zero_le h2
  rw [show ((n : Int) * 256) = ((2 ^ 8 * n : Nat) : Int) from by omega, bits_or _ _ (by omega) (by omega), ← Nat.two_pow_add_eq_or_of_lt (i := 8) (by omega) n]
  omega
def readE (s : ByteArray) : Int × Int × ByteArray × Int := ((readP s).1, (readP s).2.1, (readP s).2.2.1, if (readP s).2.2.2 = true then 0 else 3)
theorem seg_Read_f (k : Nat) (s : ByteArray) (hs : s.size ≤ 4611686018427387904) : seg_Read.f (k + 3) s = some (readE s) := by
  have r0 := bt_lt s 0
  have r1 := bt_lt s 1
  unfold seg_Read.f
  by_cases c0 : s.size = 0
  · rw [if_pos (ba_toList_nil.2 c0)]; simp [readE, readP, c0, seg_Read.j0]
  rw [if_neg (fun h => c0 (ba_toList_nil.1 h))]
  unfold seg_Read.j0
  dsimp only
  have no : (readP s).2.2.2 = false → readE s = (0, 0, ⟨#[]⟩, 3) := by
    intro h
    have e : readP s = (0, 0, ⟨#[]⟩, false) := by
      unfold readP at h ⊢
      split
      · rfl
      rename_i a0
      split
      · rename_i a1; rw [if_neg a0, if_pos a1] at h; cases h
      rename_i a1
      split
      · rename_i a2; rw [if_neg a0, if_neg a1, if_pos a2] at h; cases h
      rename_i a2
      split
      · rename_i a3; rw [if_neg a0, if_neg a1, if_neg a2, if_pos a3] at h; cases h
      rename_i a3
      split
      · rename_i a4; rw [if_neg a0, if_neg a1, if_neg a2, if_neg a3, if_pos a4] at h; cases h
      rfl
    unfold readE
    rw [e]
    rfl
  by_cases c1 : (s.size : Int) > 8
  · rw [if_pos (by simpa using c1), no]
    unfold readP
    rw [if_neg c0, if_neg (by omega), if_neg (by omega), if_neg (by omega), if_neg (by omega)]
  rw [if_neg (by simpa using c1), if_pos (by omega), if_pos (by omega), w64_small (bt s 0 / 16) (by omega) (by omega), bits_and_u8 _ r0.1 r0.2, w64_small (bt s 0 % 16) (by omega) (by omega)]
  have e1 : (s.extract 1 s.size).size = s.size - 1 := by rw [ba_extract_size]; omega
  have e2 : (s.extract 2 s.size).size = s.size - 2 := by rw [ba_extract_size]; omega
  -- what was read, written, compared
  have fin : ∀ (K n : Int) (d : ByteArray), (readP s = (K, n, d, true) ∨ ((readP s).2.2.2 = false ∧ ((writeP K n d).2 ≠ 0 ∨ (writeP K n d).1 ≠ s))) →
      ((some (writeP K n d)).bind fun bt162 => (if bt162.2 = 0 then (if bt162.1.toList = s.toList then (some (K, n, d, (0 : Int))) else (some (0, 0, (⟨#[]⟩ : ByteArray), 3))) else (some (0, 0, (⟨#[]⟩ : ByteArray), 3)))) = some (readE s) := by
    rintro K n d (h | ⟨h, h2⟩)
    · have w := write_read s (by rw [h])
      rw [h] at w
      simp only [Option.bind_some, w, if_true]
      unfold readE
      rw [h]
      rfl
    · rw [no h]
      simp only [Option.bind_some, ba_toList_eq]
      rcases h2 with h2 | h2
      · rw [if_neg h2]
      · by_cases q : (writeP K n d).2 = 0
        · rw [if_pos q, if_neg h2]
        · rw [if_neg q]
  by_cases c2 : bt s 0 / 16 = 1
  · rw [if_pos c2]
    unfold seg_Read.j1
    dsimp only
    by_cases c3 : s.size = 8
    · rw [if_pos (by simp [c3]), if_pos (by omega), if_pos (by omega), w64_small (bt s 0 % 16 * 256) (by omega) (by omega), w64_small (bt s 1) (by omega) (by omega), bits_or_256 _ _ (by omega) (by omega) r1.1 r1.2, seg_Write_f, c2]
      apply fin
      by_cases c4 : 8 ≤ (bt s 0 - 16) * 256 + bt s 1
      · left
        unfold readP
        rw [if_neg c0, if_neg (by omega), if_pos ⟨by omega, by omega, c3, c4⟩, show (bt s 0 - 16) * 256 + bt s 1 = bt s 0 % 16 * 256 + bt s 1 from by omega]
      · right
        constructor
        · unfold readP
          rw [if_neg c0, if_neg (by omega), if_neg (by omega), if_neg (by omega), if_neg (by omega)]
        · left
          unfold writeP
          rw [if_neg (by omega), if_neg (by omega), if_neg (by omega), if_neg (by omega)]
          decide
    · rw [if_neg (by simp; omega), seg_Write_f, c2]
      apply fin
      right
      constructor
      · unfold readP
        rw [if_neg c0, if_neg (by omega), if_neg (by omega), if_neg (by omega), if_neg (by omega)]
      · unfold writeP
        rw [if_neg (by omega)]
        split
        · right
          intro h
          have := congrArg ByteArray.size h
          simp only [ByteArray.size_append, byte1_size] at this
          omega
        · left
          rw [if_neg (by omega), if_neg (by omega)]
          decide
  · rw [if_neg c2]
    unfold seg_Read.j1
    dsimp only
    rw [if_neg (by decide), seg_Write_f]
    apply fin
    unfold readP
    rw [if_neg c0]
    split
    · rename_i a1
      left
      rw [show bt s 0 / 16 = 0 from by omega, show bt s 0 % 16 = bt s 0 from by omega]
    rename_i a1
    split
    · omega
    rename_i a2
    split
    · rename_i a3
      left
      rw [show bt s 0 / 16 = 2 from by omega, show bt s 0 % 16 = bt s 0 - 32 from by omega]
    rename_i a3
    split
    · rename_i a4
      left
      rw [show bt s 0 / 16 = 3 from by omega, show bt s 0 % 16 = bt s 0 - 48 from by omega]
    rename_i a4
    right
    refine ⟨rfl, .inl ?_⟩
    unfold writeP
    rw [if_neg (by omega), if_neg (by omega), if_neg (by omega), if_neg (by omega)]
    decide
theorem read_single (d : ByteArray) (h1 : 1 ≤ d.size) (h7 : d.size ≤ 7) : readP (byte1 d.size ++ d) = (0, (d.size : Int), d, true) := by
  have b0 := bt_head1 d.size (by omega) d
  have hs : (byte1 d.size ++ d).size = 1 + d.size := by rw [ByteArray.size_append, byte1_size]
  unfold readP
  rw [if_neg (by omega), if_pos ⟨by omega, by omega, by omega⟩, b0, extract_head1]
theorem read_first (s : ByteArray) (h8 : 8 ≤ s.size) (hs : s.size ≤ 4095) : readP (firstPart s) = (1, (s.size : Int), s.extract 0 6, true) := by
  unfold firstPart
  obtain ⟨b0, b1⟩ := bt_head2 (16 + s.size / 256) (s.size % 256) (by omega) (by omega) (s.extract 0 6)
  have hz : (byte1 (16 + s.size / 256) ++ byte1 (s.size % 256) ++ s.extract 0 6).size = 8 := by rw [ByteArray.size_append, ByteArray.size_append, byte1_size, byte1_size, ba_extract_size]; omega
  unfold readP
  rw [if_neg (by omega), if_neg (by omega), if_pos ⟨by omega, by omega, hz, by omega⟩, b0, b1, extract_head2]
  rw [show (((16 + s.size / 256 : Nat) : Int) - 16) * 256 + ((s.size % 256 : Nat) : Int) = (s.size : Int) from by omega]
theorem read_next (s : ByteArray) (j : Nat) (h : 6 + 7 * j < s.size) : readP (nextPart s j) = (2, (((j + 1) % 16 : Nat) : Int), s.extract (6 + 7 * j) (min (6 + 7 * (j + 1)) s.size), true) := by
  unfold nextPart
  have b0 := bt_head1 (32 + (j + 1) % 16) (by omega) (s.extract (6 + 7 * j) (min (6 + 7 * (j + 1)) s.size))
  have hz : (byte1 (32 + (j + 1) % 16) ++ s.extract (6 + 7 * j) (min (6 + 7 * (j + 1)) s.size)).size = 1 + (min (6 + 7 * (j + 1)) s.size - (6 + 7 * j)) := by rw [ByteArray.size_append, byte1_size, ba_extract_size]; omega
  unfold readP
  rw [if_neg (by omega), if_neg (by omega), if_neg (by omega), if_pos ⟨by omega, by omega, by omega, by omega⟩, b0, extract_head1]
  rw [show (((32 + (j + 1) % 16 : Nat) : Int) - 32) = (((j + 1) % 16 : Nat) : Int) from by omega]
end Go.Proofs.Ythgnhhdblbiihaa.P
