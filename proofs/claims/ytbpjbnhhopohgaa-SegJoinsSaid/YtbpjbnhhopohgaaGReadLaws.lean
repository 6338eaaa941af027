/- What a part read is, by the document; the program's reading and the document's are that. -/
import Derived.Test.YtbpjbnhhopohgaaGSegLaws
import Derived.Test.YtbpjbnhhopohgaaPsignalboxref35Read
namespace Go.Proofs.Ytbpjbnhhopohgaa.P
open Go.RowKit Go.Proofs.YtbpjbnhhopohgaaW.PrintWords Go.Proofs.YtbpjbnhhopohgaaW.PrintLast Go.Proofs.YtbpjbnhhopohgaaW.PrintMore
set_option linter.unusedVariables false
set_option linter.unusedSimpArgs false

theorem bt_lt (s : ByteArray) (i : Int) : 0 ≤ bt s i ∧ bt s i < 256 := ⟨(bt_range s i).1, by have := (bt_range s i).2; omega⟩
theorem byte1_bt (s : ByteArray) (i : Nat) (h : i < s.size) : byte1 (bt s (i : Int)).toNat = s.extract i (i + 1) := by
  rw [bt_nat s i h, Int.toNat_natCast]
  apply ba_ext
  rw [ba_extract, show i + 1 - i = 1 from by omega]
  have hi : i < s.data.toList.length := by rw [ba_length]; exact h
  rw [List.drop_eq_getElem_cons hi, List.take_succ_cons, List.take_zero]
  have e : s.data.toList[i] = s[i] := by simp [ByteArray.getElem_eq_getElem_data]
  rw [e]
  unfold byte1 strOfNums
  have : UInt8.ofNat (s[i].toNat) = s[i] := UInt8.ofNat_toNat
  simp [this]
theorem part_head (s : ByteArray) (h : 0 < s.size) : byte1 (bt s 0).toNat ++ s.extract 1 s.size = s := by
  have := byte1_bt s 0 h
  rw [show ((0 : Nat) : Int) = 0 from rfl] at this
  rw [this, ba_split s 0 1 s.size (by omega) h, ba_extract_all]
theorem part_head2 (s : ByteArray) (h : 1 < s.size) : byte1 (bt s 0).toNat ++ byte1 (bt s 1).toNat ++ s.extract 2 s.size = s := by
  have h0 := byte1_bt s 0 (by omega)
  have h1 := byte1_bt s 1 h
  rw [show ((0 : Nat) : Int) = 0 from rfl] at h0
  rw [show ((1 : Nat) : Int) = 1 from rfl] at h1
  rw [h0, h1, ba_split s 0 1 2 (by omega) (by omega), ba_split s 0 2 s.size (by omega) (by omega), ba_extract_all]
def readP (s : ByteArray) : Int × Int × ByteArray × Bool :=
  if s.size = 0 then (0, 0, ⟨#[]⟩, false)
  else if 0 < bt s 0 ∧ bt s 0 < 8 ∧ (s.size : Int) = bt s 0 + 1 then (0, bt s 0, s.extract 1 s.size, true)
  else if 16 ≤ bt s 0 ∧ bt s 0 < 32 ∧ s.size = 8 ∧ 8 ≤ (bt s 0 - 16) * 256 + bt s 1 then (1, (bt s 0 - 16) * 256 + bt s 1, s.extract 2 s.size, true)
  else if 32 ≤ bt s 0 ∧ bt s 0 < 48 ∧ 2 ≤ s.size ∧ s.size ≤ 8 then (2, bt s 0 - 32, s.extract 1 s.size, true)
  else if 48 ≤ bt s 0 ∧ bt s 0 ≤ 50 ∧ s.size = 3 then (3, bt s 0 - 48, s.extract 1 s.size, true)
  else (0, 0, ⟨#[]⟩, false)
/-- A part read, written again, is those bytes. -/
theorem write_read (s : ByteArray) (h : (readP s).2.2.2 = true) : writeP (readP s).1 (readP s).2.1 (readP s).2.2.1 = (s, 0) := by
  have r0 := bt_lt s 0
  have r1 := bt_lt s 1
  unfold readP at h ⊢
  split
  · rename_i c; simp [c] at h
  rename_i c0
  have e1 : (s.extract 1 s.size).size = s.size - 1 := by rw [ba_extract_size]; omega
  have e2 : (s.extract 2 s.size).size = s.size - 2 := by rw [ba_extract_size]; omega
  have ph := part_head s (by omega)
  split
  · rename_i c
    dsimp only
    unfold writeP
    rw [if_pos ⟨rfl, by omega, by omega, by omega⟩, e1, show s.size - 1 = (bt s 0).toNat from by omega, ph]
  rename_i c1
  split
  · rename_i c
    dsimp only
    unfold writeP
    rw [if_neg (by omega), if_pos ⟨rfl, by omega, by omega, by omega⟩]
    rw [show 16 + ((bt s 0 - 16) * 256 + bt s 1).toNat / 256 = (bt s 0).toNat from by omega, show ((bt s 0 - 16) * 256 + bt s 1).toNat % 256 = (bt s 1).toNat from by omega, part_head2 s (by omega)]
  rename_i c2
  split
  · rename_i c
    dsimp only
    unfold writeP
    rw [if_neg (by omega), if_neg (by omega), if_pos ⟨rfl, by omega, by omega, by omega⟩, show 32 + (bt s 0 - 32).toNat = (bt s 0).toNat from by omega, ph]
  rename_i c3
  split
  · rename_i c
    dsimp only
    unfold writeP
    rw [if_neg (by omega), if_neg (by omega), if_neg (by omega), if_pos ⟨rfl, by omega, by omega⟩, show 48 + (bt s 0 - 48).toNat = (bt s 0).toNat from by omega, ph]
  rename_i c4
  simp [c0, c1, c2, c3, c4] at h
theorem u8_and_15 : ∀ c : Fin 256, Go.bits .and .u8 ((c.val : Nat) : Int) 15 = ((c.val % 16 : Nat) : Int) := by decide +kernel
theorem bits_and_u8 (x : Int) (h0 : 0 ≤ x) (h1 : x < 256) : Go.bits .and .u8 x 15 = x % 16 := by
  obtain ⟨n, rfl⟩ := Int.eq_ofNat_of_zero_le h0
  have := u8_and_15 ⟨n, by omega⟩
  rw [show ((n : Int) % 16) = ((n % 16 : Nat) : Int) from by omega]
  exact this
theorem bits_or_256 (x y : Int) (h0 : 0 ≤ x) (h1 : x < 16) (h2 : 0 ≤ y) (h3 : y < 256) : Go.bits .or .i64 (x * 256) y = x * 256 + y := by
  obtain ⟨n, rfl⟩ := Int.eq_ofNat_of_zero_le h0
  obtain ⟨m, rfl⟩ := Int.eq_ofNat_of_zero_le h2
  rw [show ((n : Int) * 256) = ((2 ^ 8 * n : Nat) : Int) from by omega, bits_or _ _ (by omega) (by omega), ← Nat.two_pow_add_eq_or_of_lt (i := 8) (by omega) n]
  omega
theorem ref35_Read_f (k : Nat) (s : ByteArray) (hs : s.size ≤ 4611686018427387904) : signalboxref35_Read.f (k + 3) s = some (readP s) := by
  have r0 := bt_lt s 0
  have r1 := bt_lt s 1
  unfold signalboxref35_Read.f
  by_cases c0 : s.size = 0
  · rw [if_pos (ba_toList_nil.2 c0)]; simp [readP, c0]
  rw [if_neg (fun h => c0 (ba_toList_nil.1 h)), if_pos (by omega)]
  have w0 : wrap64 (bt s 0) = bt s 0 := w64_small _ (by omega) (by omega)
  have w1 : wrap64 ((s.size : Int) - 1) = (s.size : Int) - 1 := w64_small _ (by omega) (by omega)
  have wb : wrap64 (bt s 1) = bt s 1 := w64_small _ (by omega) (by omega)
  rw [w0, w1]
  have J : ∀ b : Bool, (b = true ↔ (0 < bt s 0 ∧ bt s 0 < 8 ∧ (s.size : Int) = bt s 0 + 1)) → signalboxref35_Read.j0 (k + 3) s (bt s 0) ((s.size : Int) - 1) b = some (readP s) := by
    intro b hb
    unfold signalboxref35_Read.j0 readP
    rw [if_neg c0]
    dsimp only
    by_cases c1 : b = true
    · rw [if_pos c1, if_pos (by omega), if_pos (hb.1 c1), show bt s 0 = bt s 0 from rfl]
    rw [if_neg c1, if_neg (fun h => c1 (hb.2 h))]
    clear hb c1
    have J2 : ∀ b : Bool, (b = true ↔ (32 ≤ bt s 0 ∧ bt s 0 < 48 ∧ 2 ≤ s.size ∧ s.size ≤ 8)) → signalboxref35_Read.j2 (k + 1) s (bt s 0) ((s.size : Int) - 1) b = some (
      if 32 ≤ bt s 0 ∧ bt s 0 < 48 ∧ 2 ≤ s.size ∧ s.size ≤ 8 then (2, bt s 0 - 32, s.extract 1 s.size, true)
      else if 48 ≤ bt s 0 ∧ bt s 0 ≤ 50 ∧ s.size = 3 then (3, bt s 0 - 48, s.extract 1 s.size, true)
      else (0, 0, ⟨#[]⟩, false)) := by
      intro b hb
      unfold signalboxref35_Read.j2
      dsimp only
      by_cases c1 : b = true
      · rw [if_pos c1, if_pos (by omega), if_pos (hb.1 c1), w64_small (bt s 0 - 32) (by omega) (by omega)]
      rw [if_neg c1, if_neg (fun h => c1 (hb.2 h)), w64_small (bt s 0 - 48) (by omega) (by omega)]
      by_cases d1 : bt s 0 ≥ 48
      · by_cases d2 : bt s 0 ≤ 50
        · by_cases d3 : (s.size : Int) - 1 = 2
          · rw [if_pos d1, if_pos d2, if_pos d3, if_pos (by omega), if_pos ⟨d1, d2, by omega⟩]
          · rw [if_pos d1, if_pos d2, if_neg d3, if_neg (by omega)]
        · rw [if_pos d1, if_neg d2, if_neg (by omega)]
      · rw [if_neg d1, if_neg (by omega)]
    have J1 : ∀ b : Bool, (b = true ↔ (16 ≤ bt s 0 ∧ bt s 0 < 32 ∧ s.size = 8)) → signalboxref35_Read.j1 (k + 2) s (bt s 0) ((s.size : Int) - 1) b = some (
      if 16 ≤ bt s 0 ∧ bt s 0 < 32 ∧ s.size = 8 ∧ 8 ≤ (bt s 0 - 16) * 256 + bt s 1 then (1, (bt s 0 - 16) * 256 + bt s 1, s.extract 2 s.size, true)
      else if 32 ≤ bt s 0 ∧ bt s 0 < 48 ∧ 2 ≤ s.size ∧ s.size ≤ 8 then (2, bt s 0 - 32, s.extract 1 s.size, true)
      else if 48 ≤ bt s 0 ∧ bt s 0 ≤ 50 ∧ s.size = 3 then (3, bt s 0 - 48, s.extract 1 s.size, true)
      else (0, 0, ⟨#[]⟩, false)) := by
      intro b hb
      unfold signalboxref35_Read.j1
      dsimp only
      by_cases c1 : b = true
      · have := hb.1 c1
        rw [if_pos c1, if_pos (by omega), w64_small (bt s 0 - 16) (by omega) (by omega), w64_small ((bt s 0 - 16) * 256) (by omega) (by omega), wb, w64_small ((bt s 0 - 16) * 256 + bt s 1) (by omega) (by omega)]
        by_cases d : (bt s 0 - 16) * 256 + bt s 1 < 8
        · rw [if_pos d, if_neg (by omega), if_neg (by omega), if_neg (by omega)]
        · rw [if_neg d, if_pos (by omega), if_pos ⟨this.1, this.2.1, this.2.2, by omega⟩]
      rw [if_neg c1, if_neg (show ¬ (16 ≤ bt s 0 ∧ bt s 0 < 32 ∧ s.size = 8 ∧ 8 ≤ (bt s 0 - 16) * 256 + bt s 1) from fun h => c1 (hb.2 ⟨h.1, h.2.1, h.2.2.1⟩))]
      by_cases d1 : bt s 0 ≥ 32
      · by_cases d2 : bt s 0 < 48
        · by_cases d3 : (s.size : Int) - 1 ≥ 1
          · rw [if_pos d1, if_pos d2, if_pos d3]
            exact J2 _ (by simp only [decide_eq_true_eq]; omega)
          · rw [if_pos d1, if_pos d2, if_neg d3]
            exact J2 _ (by simp only [Bool.false_eq_true, false_iff]; omega)
        · rw [if_pos d1, if_neg d2]
          exact J2 _ (by simp only [Bool.false_eq_true, false_iff]; omega)
      · rw [if_neg d1]
        exact J2 _ (by simp only [Bool.false_eq_true, false_iff]; omega)
    by_cases d1 : bt s 0 ≥ 16
    · by_cases d2 : bt s 0 < 32
      · rw [if_pos d1, if_pos d2]
        exact J1 _ (by simp only [beq_iff_eq]; omega)
      · rw [if_pos d1, if_neg d2]
        exact J1 _ (by simp only [Bool.false_eq_true, false_iff]; omega)
    · rw [if_neg d1]
      exact J1 _ (by simp only [Bool.false_eq_true, false_iff]; omega)
  by_cases d1 : bt s 0 > 0
  · by_cases d2 : bt s 0 < 8
    · rw [if_pos d1, if_pos d2]
      exact J _ (by simp only [beq_iff_eq]; omega)
    · rw [if_pos d1, if_neg d2]
      exact J _ (by simp only [Bool.false_eq_true, false_iff]; omega)
  · rw [if_neg d1]
    exact J _ (by simp only [Bool.false_eq_true, false_iff]; omega)
def readE (s : ByteArray) : Int × Int × ByteArray × Int := ((readP s).1, (readP s).2.1, (readP s).2.2.1, if (readP s).2.2.2 = true then 0 else 3)
theorem seg_Read_f (k : Nat) (s : ByteArray) (hs : s.size ≤ 4611686018427387904) : seg_Read.f (k + 3) s = some (readE s) := by
  have r0 := bt_lt s 0
  have r1 := bt_lt s 1
  unfold seg_Read.f
  by_cases c0 : s.size = 0
  · rw [if_pos (ba_toList_nil.2 c0)]; simp [readE, readP, c0, seg_Read.j0]
  rw [if_neg (fun h => c0 (ba_toList_nil.1 h))]
  unfold seg_Read.j0
  dsimp only
  have no : (readP s).2.2.2 = false → readE s = (0, 0, ⟨#[]⟩, 3) := by
    intro h
    have e : readP s = (0, 0, ⟨#[]⟩, false) := by
      unfold readP at h ⊢
      split
      · rfl
      rename_i a0
      split
      · rename_i a1; rw [if_neg a0, if_pos a1] at h; cases h
      rename_i a1
      split
      · rename_i a2; rw [if_neg a0, if_neg a1, if_pos a2] at h; cases h
      rename_i a2
      split
      · rename_i a3; rw [if_neg a0, if_neg a1, if_neg a2, if_pos a3] at h; cases h
      rename_i a3
      split
      · rename_i a4; rw [if_neg a0, if_neg a1, if_neg a2, if_neg a3, if_pos a4] at h; cases h
      rfl
    unfold readE
    rw [e]
    rfl
  by_cases c1 : (s.size : Int) > 8
  · rw [if_pos (by simpa using c1), no]
    unfold readP
    rw [if_neg c0, if_neg (by omega), if_neg (by omega), if_neg (by omega), if_neg (by omega)]
  rw [if_neg (by simpa using c1), if_pos (by omega), if_pos (by omega), w64_small (bt s 0 / 16) (by omega) (by omega), bits_and_u8 _ r0.1 r0.2, w64_small (bt s 0 % 16) (by omega) (by omega)]
  have e1 : (s.extract 1 s.size).size = s.size - 1 := by rw [ba_extract_size]; omega
  have e2 : (s.extract 2 s.size).size = s.size - 2 := by rw [ba_extract_size]; omega
  -- what was read, written, compared
  have fin : ∀ (K n : Int) (d : ByteArray), (readP s = (K, n, d, true) ∨ ((readP s).2.2.2 = false ∧ ((writeP K n d).2 ≠ 0 ∨ (writeP K n d).1 ≠ s))) →
      ((some (writeP K n d)).bind fun bt162 => (if bt162.2 = 0 then (if bt162.1.toList = s.toList then (some (K, n, d, (0 : Int))) else (some (0, 0, (⟨#[]⟩ : ByteArray), 3))) else (some (0, 0, (⟨#[]⟩ : ByteArray), 3)))) = some (readE s) := by
    rintro K n d (h | ⟨h, h2⟩)
    · have w := write_read s (by rw [h])
      rw [h] at w
      simp only [Option.bind_some, w, if_true]
      unfold readE
      rw [h]
      rfl
    · rw [no h]
      simp only [Option.bind_some, ba_toList_eq]
      rcases h2 with h2 | h2
      · rw [if_neg h2]
      · by_cases q : (writeP K n d).2 = 0
        · rw [if_pos q, if_neg h2]
        · rw [if_neg q]
  by_cases c2 : bt s 0 / 16 = 1
  · rw [if_pos c2]
    unfold seg_Read.j1
    dsimp only
    by_cases c3 : s.size = 8
    · rw [if_pos (by simp [c3]), if_pos (by omega), if_pos (by omega), w64_small (bt s 0 % 16 * 256) (by omega) (by omega), w64_small (bt s 1) (by omega) (by omega), bits_or_256 _ _ (by omega) (by omega) r1.1 r1.2, seg_Write_f, c2]
      apply fin
      by_cases c4 : 8 ≤ (bt s 0 - 16) * 256 + bt s 1
      · left
        unfold readP
        rw [if_neg c0, if_neg (by omega), if_pos ⟨by omega, by omega, c3, c4⟩, show (bt s 0 - 16) * 256 + bt s 1 = bt s 0 % 16 * 256 + bt s 1 from by omega]
      · right
        constructor
        · unfold readP
          rw [if_neg c0, if_neg (by omega), if_neg (by omega), if_neg (by omega), if_neg (by omega)]
        · left
          unfold writeP
          rw [if_neg (by omega), if_neg (by omega), if_neg (by omega), if_neg (by omega)]
          decide
    · rw [if_neg (by simp; omega), seg_Write_f, c2]
      apply fin
      right
      constructor
      · unfold readP
        rw [if_neg c0, if_neg (by omega), if_neg (by omega), if_neg (by omega), if_neg (by omega)]
      · unfold writeP
        rw [if_neg (by omega)]
        split
        · right
          intro h
          have := congrArg ByteArray.size h
          simp only [ByteArray.size_append, byte1_size] at this
          omega
        · left
          rw [if_neg (by omega), if_neg (by omega)]
          decide
  · rw [if_neg c2]
    unfold seg_Read.j1
    dsimp only
    rw [if_neg (by decide), seg_Write_f]
    apply fin
    unfold readP
    rw [if_neg c0]
    split
    · rename_i a1
      left
      rw [show bt s 0 / 16 = 0 from by omega, show bt s 0 % 16 = bt s 0 from by omega]
    rename_i a1
    split
    · omega
    rename_i a2
    split
    · rename_i a3
      left
      rw [show bt s 0 / 16 = 2 from by omega, show bt s 0 % 16 = bt s 0 - 32 from by omega]
    rename_i a3
    split
    · rename_i a4
      left
      rw [show bt s 0 / 16 = 3 from by omega, show bt s 0 % 16 = bt s 0 - 48 from by omega]
    rename_i a4
    right
    refine ⟨rfl, .inl ?_⟩
    unfold writeP
    rw [if_neg (by omega), if_neg (by omega), if_neg (by omega), if_neg (by omega)]
    decide
end Go.Proofs.Ytbpjbnhhopohgaa.P
