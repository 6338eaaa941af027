/- SegWrites over plain numbers and texts: a part written is read as itself; no conditions. -/
import Derived.Test.YtbpjbnhhopohgaaPsignalboxlaw35SegWrites
import Derived.Test.YtbpjbnhhopohgaaGSplitLaws
namespace Go.Proofs.Ytbpjbnhhopohgaa.Pure
open Go.RowKit Go.Proofs.Ytbpjbnhhopohgaa.P Go.Proofs.YtbpjbnhhopohgaaW.PrintWords Go.Proofs.YtbpjbnhhopohgaaW.PrintLast
set_option linter.unusedVariables false

theorem read_write (K n : Int) (d : ByteArray) (h : (writeP K n d).2 = 0) : readP (writeP K n d).1 = (K, n, d, true) ∧ (writeP K n d).1.size ≤ 8 := by
  unfold writeP at h ⊢
  split
  · rename_i c
    obtain ⟨rfl, c1, c7, rfl⟩ := c
    refine ⟨read_single d c1 c7, ?_⟩
    rw [ByteArray.size_append, byte1_size]; omega
  rename_i c0
  split
  · rename_i c
    obtain ⟨rfl, c6, cn, cm⟩ := c
    obtain ⟨m, rfl⟩ := Int.eq_ofNat_of_zero_le (show 0 ≤ n by omega)
    rw [Int.toNat_natCast]
    obtain ⟨b0, b1⟩ := bt_head2 (16 + m / 256) (m % 256) (by omega) (by omega) d
    have hz : (byte1 (16 + m / 256) ++ byte1 (m % 256) ++ d).size = 8 := by rw [ByteArray.size_append, ByteArray.size_append, byte1_size, byte1_size]; omega
    refine ⟨?_, by dsimp only; omega⟩
    dsimp only
    unfold readP
    rw [if_neg (by omega), if_neg (by omega), if_pos ⟨by omega, by omega, hz, by omega⟩, b0, b1, extract_head2]
    rw [show (((16 + m / 256 : Nat) : Int) - 16) * 256 + ((m % 256 : Nat) : Int) = (m : Int) from by omega]
  rename_i c1
  split
  · rename_i c
    obtain ⟨rfl, d1, d7, cn, cm⟩ := c
    obtain ⟨m, rfl⟩ := Int.eq_ofNat_of_zero_le cn
    rw [Int.toNat_natCast]
    have b0 := bt_head1 (32 + m) (by omega) d
    have hz : (byte1 (32 + m) ++ d).size = 1 + d.size := by rw [ByteArray.size_append, byte1_size]
    refine ⟨?_, by dsimp only; omega⟩
    dsimp only
    unfold readP
    rw [if_neg (by omega), if_neg (by omega), if_neg (by omega), if_pos ⟨by omega, by omega, by omega, by omega⟩, b0, extract_head1]
    rw [show (((32 + m : Nat) : Int) - 32) = (m : Int) from by omega]
  rename_i c2
  split
  · rename_i c
    obtain ⟨rfl, d2, cn, cm⟩ := c
    obtain ⟨m, rfl⟩ := Int.eq_ofNat_of_zero_le cn
    rw [Int.toNat_natCast]
    have b0 := bt_head1 (48 + m) (by omega) d
    have hz : (byte1 (48 + m) ++ d).size = 1 + d.size := by rw [ByteArray.size_append, byte1_size]
    refine ⟨?_, by dsimp only; omega⟩
    dsimp only
    unfold readP
    rw [if_neg (by omega), if_neg (by omega), if_neg (by omega), if_neg (by omega), if_pos ⟨by omega, by omega, by omega⟩, b0, extract_head1]
    rw [show (((48 + m : Nat) : Int) - 48) = (m : Int) from by omega]
  rename_i c3
  rw [if_neg c0, if_neg c1, if_neg c2, if_neg c3] at h
  exact absurd h (by decide)
theorem write_no (K n : Int) (d : ByteArray) (h : (writeP K n d).2 ≠ 0) : writeP K n d = (⟨#[]⟩, 3) := by
  unfold writeP at h ⊢
  split
  · rename_i c; rw [if_pos c] at h; exact absurd rfl h
  rename_i c0
  split
  · rename_i c; rw [if_neg c0, if_pos c] at h; exact absurd rfl h
  rename_i c1
  split
  · rename_i c; rw [if_neg c0, if_neg c1, if_pos c] at h; exact absurd rfl h
  rename_i c2
  split
  · rename_i c; rw [if_neg c0, if_neg c1, if_neg c2, if_pos c] at h; exact absurd rfl h
  rfl
theorem SegWrites (K n : Int) (d : ByteArray) : signalboxlaw35_SegWrites.f 3 K n d = some true := by
  unfold signalboxlaw35_SegWrites.f
  rw [seg_Write_f 2 K n d]
  simp only [Option.bind_some, alive35]
  by_cases h : (writeP K n d).2 = 0
  · obtain ⟨r, z⟩ := read_write K n d h
    rw [if_pos h, seg_Read_f 0 _ (by omega)]
    simp only [Option.bind_some, readE, r]
    simp
    omega
  · rw [if_neg h, write_no K n d h]
    simp
theorem SegWritesWalk (K n : Int) (d : ByteArray) (w : World) (w0 : (Lit.int .i64 K).wf = true) (w1 : (Lit.int .i64 n).wf = true) (w2 : d.size ≤ maxLen) :
    Calls Try.prog 7 #[.agg #[.int .i64 K, .int .i64 n, .string d]] w fun e w' => e = .returned (.bool true) ∧ Below w.heap.size w w' :=
  signalboxlaw35_SegWrites.calls 3 K n d true w (SegWrites K n d)
end Go.Proofs.Ytbpjbnhhopohgaa.Pure
