/- Plain forms of the parts of layer 35: how many parts, a part written, a part read; and the example. -/
import Derived.Test.YtbpjbnhhopohgaaPsignalboxlaw35alive
import Derived.Test.YtbpjbnhhopohgaaPsegMany
import Derived.Test.YtbpjbnhhopohgaaPsegRead
import Derived.Test.YtbpjbnhhopohgaaPsegWrite
import Derived.Test.YtbpjbnhhopohgaaGBits
import Derived.Test.YtbpjbnhhopohgaaGBytes
import Derived.Test.YtbpjbnhhopohgaaGNum
namespace Go.Proofs.Ytbpjbnhhopohgaa.P
open Go.RowKit Go.Proofs.YtbpjbnhhopohgaaW.PrintWords Go.Proofs.YtbpjbnhhopohgaaW.PrintLast Go.Proofs.YtbpjbnhhopohgaaW.PrintMore
set_option linter.unusedVariables false
set_option linter.unusedSimpArgs false

theorem alive35 : signalboxlaw35_alive.f = some true := by decide +kernel
def manyP (n : Int) : Int := if n < 1 ∨ 4095 < n then 0 else if n ≤ 7 then 1 else 1 + n / 7
theorem seg_Many_f (k : Nat) (n : Int) : seg_Many.f (k + 1) n = some (manyP n) := by
  unfold seg_Many.f seg_Many.j0 manyP
  by_cases h : n < 1
  · simp [h]
  · rw [if_neg h]
    by_cases h2 : n > 4095
    · simp [h2]
    · have e1 : wrap64 (n - 6) = n - 6 := w64_small _ (by omega) (by omega)
      have e2 : wrap64 (n - 6 + 7) = n + 1 := by rw [w64_small _ (by omega) (by omega)]; omega
      have e3 : wrap64 (n + 1 - 1) = n := by rw [w64_small _ (by omega) (by omega)]; omega
      have e4 : Int.tdiv n 7 = n / 7 := by rw [Int.tdiv_eq_ediv_of_nonneg (by omega)]
      have e5 : wrap64 (n / 7) = n / 7 := w64_small _ (by omega) (by omega)
      have e6 : wrap64 (1 + n / 7) = 1 + n / 7 := w64_small _ (by omega) (by omega)
      dsimp only
      rw [e1, e2, e3, e4, e5, e6]
      have h3 : ¬ (n < 1 ∨ 4095 < n) := by omega
      simp only [decide_eq_true_eq, if_neg h2, if_neg h3]
      split <;> rfl
/-- A part's bytes, by the document. -/
def writeP (K n : Int) (d : ByteArray) : ByteArray × Int :=
  if K = 0 ∧ 1 ≤ d.size ∧ d.size ≤ 7 ∧ n = d.size then (byte1 d.size ++ d, 0)
  else if K = 1 ∧ d.size = 6 ∧ 7 < n ∧ n ≤ 4095 then (byte1 (16 + n.toNat / 256) ++ byte1 (n.toNat % 256) ++ d, 0)
  else if K = 2 ∧ 1 ≤ d.size ∧ d.size ≤ 7 ∧ 0 ≤ n ∧ n < 16 then (byte1 (32 + n.toNat) ++ d, 0)
  else if K = 3 ∧ d.size = 2 ∧ 0 ≤ n ∧ n ≤ 2 then (byte1 (48 + n.toNat) ++ d, 0)
  else (⟨#[]⟩, 3)
theorem seg_Write_f (k : Nat) (K n : Int) (d : ByteArray) : seg_Write.f (k + 1) K n d = some (writeP K n d) := by
  unfold seg_Write.f seg_Write.j0 seg_Write.j1 writeP
  by_cases h0 : K = 0
  · subst h0
    simp only [reduceCtorEq, if_true, true_and, false_and, if_false, show ((0 : Int) = 1) = False from by decide, show ((0 : Int) = 2) = False from by decide, show ((0 : Int) = 3) = False from by decide]
    by_cases h1 : 1 ≤ d.size
    · by_cases h2 : d.size ≤ 7
      · by_cases h3 : n = d.size
        · have hm := mark_eq 0 d.size (by omega) (by omega)
          rw [if_pos (by omega), if_pos (by omega), if_pos (by simp [h3]), show ((0 : Nat) : Int) = 0 from rfl] at *
          rw [hm, if_pos ⟨h1, h2, h3⟩]
          show (if (byte1 (16 * 0 + d.size)).size + d.size ≤ 9223372036854775807 then _ else _) = _
          rw [byte1_size, if_pos (by omega)]
          simp
        · simp [h1, h2, h3, show ((d.size : Int) ≥ 1) from by omega, show ((d.size : Int) ≤ 7) from by omega]
      · simp [h1, h2, show ((d.size : Int) ≥ 1) from by omega, show ¬ ((d.size : Int) ≤ 7) from by omega]
    · simp [h1, show ¬ ((d.size : Int) ≥ 1) from by omega]
  · rw [if_neg h0]
    by_cases h1 : K = 1
    · subst h1
      simp only [if_true, true_and, false_and, if_false, show ((1 : Int) = 0) = False from by decide, show ((1 : Int) = 2) = False from by decide, show ((1 : Int) = 3) = False from by decide]
      by_cases h2 : d.size = 6
      · by_cases h3 : 7 < n
        · by_cases h4 : n ≤ 4095
          · obtain ⟨m, rfl⟩ := Int.eq_ofNat_of_zero_le (show 0 ≤ n by omega)
            have hm := mark_eq 1 (m / 256) (by omega) (by omega)
            rw [if_pos (by omega), if_pos (by omega), if_pos (by omega), if_pos ⟨h2, h3, h4⟩, show ((m : Int) / 256) = ((m / 256 : Nat) : Int) from by omega, show ((1 : Int)) = ((1 : Nat) : Int) from rfl, hm]
            show (if (byte1 (16 * 1 + m / 256)).size + (byte1 (m % 256)).size ≤ 9223372036854775807 then (if (byte1 (16 * 1 + m / 256) ++ byte1 (m % 256)).size + d.size ≤ 9223372036854775807 then some (byte1 (16 * 1 + m / 256) ++ byte1 (m % 256) ++ d, (0 : Int)) else none) else none) = _
            rw [ByteArray.size_append, byte1_size, byte1_size, if_pos (by omega), if_pos (by omega)]
            simp
          · simp [h2, h3, h4]
        · simp [h2, h3]
      · simp [h2, show ¬ ((d.size : Int) = 6) from by omega]
    · rw [if_neg h1]
      by_cases h2 : K = 2
      · subst h2
        simp only [if_true, true_and, false_and, if_false, show ((2 : Int) = 0) = False from by decide, show ((2 : Int) = 1) = False from by decide, show ((2 : Int) = 3) = False from by decide]
        by_cases h3 : 1 ≤ d.size
        · by_cases h4 : d.size ≤ 7
          · by_cases h5 : 0 ≤ n
            · by_cases h6 : n < 16
              · obtain ⟨m, rfl⟩ := Int.eq_ofNat_of_zero_le h5
                have hm := mark_eq 2 m (by omega) (by omega)
                rw [if_pos (by omega), if_pos (by omega), if_pos (by omega), if_pos (by simp; omega), if_pos ⟨h3, h4, h5, h6⟩, show ((2 : Int)) = ((2 : Nat) : Int) from rfl, hm]
                show (if (byte1 (16 * 2 + m)).size + d.size ≤ 9223372036854775807 then _ else _) = _
                rw [byte1_size, if_pos (by omega)]
                simp
              · simp [h3, h4, h5, h6, show ((d.size : Int) ≥ 1) from by omega, show ((d.size : Int) ≤ 7) from by omega]
            · simp [h3, h4, h5, show ((d.size : Int) ≥ 1) from by omega, show ((d.size : Int) ≤ 7) from by omega]
          · simp [h3, h4, show ((d.size : Int) ≥ 1) from by omega, show ¬ ((d.size : Int) ≤ 7) from by omega]
        · simp [h3, show ¬ ((d.size : Int) ≥ 1) from by omega]
      · rw [if_neg h2]
        by_cases h3 : K = 3
        · subst h3
          simp only [if_true, true_and, false_and, if_false, show ((3 : Int) = 0) = False from by decide, show ((3 : Int) = 1) = False from by decide, show ((3 : Int) = 2) = False from by decide]
          by_cases h4 : d.size = 2
          · by_cases h5 : 0 ≤ n
            · by_cases h6 : n ≤ 2
              · obtain ⟨m, rfl⟩ := Int.eq_ofNat_of_zero_le h5
                have hm := mark_eq 3 m (by omega) (by omega)
                rw [if_pos (by omega), if_pos (by omega), if_pos (by omega), if_pos ⟨h4, h5, h6⟩, show ((3 : Int)) = ((3 : Nat) : Int) from rfl, hm]
                show (if (byte1 (16 * 3 + m)).size + d.size ≤ 9223372036854775807 then _ else _) = _
                rw [byte1_size, if_pos (by omega)]
                simp
              · simp [h4, h5, h6]
            · simp [h4, h5]
          · simp [h4, show ¬ ((d.size : Int) = 2) from by omega]
        · simp [h0, h1, h2, h3]
end Go.Proofs.Ytbpjbnhhopohgaa.P
