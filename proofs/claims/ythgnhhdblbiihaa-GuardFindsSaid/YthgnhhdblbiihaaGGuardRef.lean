/- What the document's check and opening of layer 40 answer, in closed form; the example. -/
import Derived.Test.YthgnhhdblbiihaaGGuardLaws
import Derived.Test.YthgnhhdblbiihaaGRefAll
import Derived.Test.YthgnhhdblbiihaaPsignalboxref40Open
import Derived.Test.YthgnhhdblbiihaaPsignalboxlaw40alive
namespace Go.Proofs.Ythgnhhdblbiihaa.P
open Go.RowKit Go.Proofs.YthgnhhdblbiihaaW.PrintWords Go.Proofs.YthgnhhdblbiihaaW.PrintLast Go.Proofs.YthgnhhdblbiihaaW.PrintMore
set_option linter.unusedVariables false
set_option linter.unusedSimpArgs false

theorem alive40 (k : Nat) : signalboxlaw40_alive.f (k + 10) = some true := by
  have h : ∀ j, signalboxlaw40_alive.f (10 + j) = some true := by
    intro j
    induction j with
    | zero => decide +kernel
    | succ j ih => exact signalboxlaw40_alive.mono (10 + j) true ih
  rw [Nat.add_comm]; exact h k
theorem ref07_oct (n : Nat) (h : n ≤ 255) (k : Nat) (hk : 61 < k) : signalboxref07_Bits.f k (n : Int) 8 = some (oct n) := by
  rw [ref07_bits_f (n : Int) 8 k hk (by omega), crc_Bits_oct n h]
theorem refChk_l (id : Nat) (s : ByteArray) (hs : s.size ≤ 1000000) : ∀ (d k i : Nat), s.size - i = d → i ≤ s.size → d + 62 < k →
    signalboxref40_Check.l0 k s (bits8 id (s.data.toList.take i)) (i : Int) = some ((chk id s : Nat) : Int)
  | 0, k, i, hd, hi, hk => by
    obtain ⟨k, rfl⟩ : ∃ m, k = m + 1 := ⟨k - 1, by omega⟩
    simp only [signalboxref40_Check.l0]
    rw [if_neg (by omega), show i = s.data.toList.length from by rw [ba_length]; omega, List.take_length]
    unfold signalboxref07_Sum.f
    rw [if_pos (by rw [bits8_size, ba_length]; omega)]
    unfold crc_Sum.f
    rw [bits8_bitsB]
    rfl
  | d + 1, k, i, hd, hi, hk => by
    obtain ⟨k, rfl⟩ : ∃ m, k = m + 1 := ⟨k - 1, by omega⟩
    simp only [signalboxref40_Check.l0]
    have h1 : i < s.size := by omega
    have hx : s[i].toNat ≤ 255 := by have := s[i].toNat_lt; omega
    rw [if_pos (by omega), if_pos (by omega), bt_nat s i h1, w64_small _ (by omega) (by omega), ref07_oct _ hx k (by omega)]
    simp only [Option.bind_some]
    rw [if_pos (by rw [bits8_size, oct_size, List.length_take, ba_length]; omega), wrap_succ i (by omega), ← bits8_snoc]
    rw [show s.data.toList.take i ++ [s[i]] = s.data.toList.take (i + 1) from by
      rw [List.take_succ_eq_append_getElem (by rw [ba_length]; exact h1)]
      simp [ByteArray.getElem_eq_getElem_data]]
    exact refChk_l id s hs d k (i + 1) (by omega) (by omega) (by omega)
def refChkP (id : Int) (s : ByteArray) : Int := if 0 ≤ id ∧ id ≤ 255 then ((chk id.toNat s : Nat) : Int) else -1
theorem refChk_f (id : Int) (s : ByteArray) (hs : s.size ≤ 1000000) (k : Nat) (hk : s.size + 64 < k) : signalboxref40_Check.f k id s = some (refChkP id s) := by
  obtain ⟨k, rfl⟩ : ∃ m, k = m + 1 := ⟨k - 1, by omega⟩
  have J : ∀ b : Bool, (b = true ↔ ¬ (0 ≤ id ∧ id ≤ 255)) → signalboxref40_Check.j0 (k + 1) id s b = some (refChkP id s) := by
    intro b hb
    unfold signalboxref40_Check.j0 refChkP
    dsimp only
    by_cases h : b = true
    · rw [if_pos h, if_neg (hb.1 h)]
    · have hi : 0 ≤ id ∧ id ≤ 255 := by
        by_cases q : (0 ≤ id ∧ id ≤ 255)
        · exact q
        · exact absurd (hb.2 q) h
      rw [if_neg h, if_pos hi]
      obtain ⟨n, rfl⟩ := Int.eq_ofNat_of_zero_le hi.1
      rw [ref07_oct n (by omega) k (by omega), Int.toNat_natCast]
      exact refChk_l n s hs s.size k 0 (by omega) (by omega) (by omega)
  unfold signalboxref40_Check.f
  by_cases h0 : id < 0
  · rw [if_pos h0]; exact J true (by simp; omega)
  · rw [if_neg h0]
    exact J _ (by simp only [decide_eq_true_eq]; omega)
/-- A text that ends in a byte: which byte that is. -/
theorem last_byte (s : ByteArray) (h : 1 ≤ s.size) (c : Nat) (hc : c < 256) : (s.extract 0 (s.size - 1) ++ byte1 c = s) ↔ bt s ((s.size - 1 : Nat) : Int) = (c : Int) := by
  have e : s.extract 0 (s.size - 1) ++ s.extract (s.size - 1) s.size = s := by rw [ba_split s 0 (s.size - 1) s.size (by omega) (by omega), ba_extract_all]
  have b := byte1_bt s (s.size - 1) (by omega)
  rw [show s.size - 1 + 1 = s.size from by omega] at b
  have r := bt_lt s ((s.size - 1 : Nat) : Int)
  constructor
  · intro q
    have hb : byte1 c = s.extract (s.size - 1) s.size := by
      have q2 := q.trans e.symm
      apply ba_ext
      have := congrArg (fun x : ByteArray => x.data.toList) q2
      simp only [ba_append] at this
      exact List.append_cancel_left this
    rw [← b] at hb
    have h1 := congrArg (fun x : ByteArray => x.data.toList) hb
    simp only [byte1_list, List.cons.injEq, and_true] at h1
    have h2 := congrArg UInt8.toNat h1
    rw [UInt8.toNat_ofNat', UInt8.toNat_ofNat'] at h2
    omega
  · intro q
    rw [q, Int.toNat_natCast] at b
    rw [b, e]
theorem open_iff (id : Int) (s : ByteArray) (hi : 0 ≤ id ∧ id ≤ 255) : (2 ≤ s.size ∧ sealP id (bt s 0) (s.extract 1 (s.size - 1)) = (s, 0)) ↔ (2 ≤ s.size ∧ s.size ≤ 64 ∧ bt s 0 ≤ 14 ∧ ((chk id.toNat (s.extract 0 (s.size - 1)) : Nat) : Int) = bt s ((s.size - 1 : Nat) : Int)) := by
  have r0 := bt_lt s 0
  have em : (s.extract 1 (s.size - 1)).size = s.size - 2 := by rw [ba_extract_size]; omega
  constructor
  · rintro ⟨h2, h⟩
    unfold sealP at h
    split at h
    · rename_i c
      have h1 := congrArg Prod.fst h
      dsimp only at h1
      have b0 := byte1_bt s 0 (by omega)
      rw [show ((0 : Nat) : Int) = 0 from rfl] at b0
      rw [b0, ba_split s 0 1 (s.size - 1) (by omega) (by omega)] at h1
      exact ⟨h2, by omega, by omega, ((last_byte s (by omega) _ (chk_lt _ _)).1 h1).symm⟩
    · have := congrArg Prod.snd h
      exact absurd (show (2 : Int) = 0 from this) (by decide)
  · rintro ⟨h2, h3, h4, h5⟩
    refine ⟨h2, ?_⟩
    unfold sealP
    rw [if_pos ⟨r0.1, by omega, by omega, hi.1, hi.2⟩]
    have b0 := byte1_bt s 0 (by omega)
    rw [show ((0 : Nat) : Int) = 0 from rfl] at b0
    rw [b0, ba_split s 0 1 (s.size - 1) (by omega) (by omega), (last_byte s (by omega) _ (chk_lt _ _)).2 h5.symm]
theorem refOpen_f (id : Int) (s : ByteArray) (hs : s.size ≤ 1000000) (k : Nat) (hk : s.size + 65 < k) : signalboxref40_Open.f k id s = some (openP id s) := by
  obtain ⟨k, rfl⟩ : ∃ m, k = m + 1 := ⟨k - 1, by omega⟩
  have r0 := bt_lt s 0
  have J : ∀ b : Bool, (b = true ↔ ¬ (0 ≤ id ∧ id ≤ 255)) → signalboxref40_Open.j0 (k + 1) id s b = some (openP id s) := by
    intro b hb
    unfold signalboxref40_Open.j0 openP
    dsimp only
    by_cases h : b = true
    · rw [if_pos h, if_neg (hb.1 h)]
    · have hi : 0 ≤ id ∧ id ≤ 255 := by
        by_cases q : (0 ≤ id ∧ id ≤ 255)
        · exact q
        · exact absurd (hb.2 q) h
      have it := open_iff id s hi
      rw [if_neg h, if_pos hi]
      by_cases h2 : (s.size : Int) < 2
      · rw [if_pos h2, if_neg (by omega)]
      rw [if_neg h2]
      by_cases h3 : (s.size : Int) > 64
      · rw [if_pos h3, if_neg (fun q => by have := it.1 q; omega)]
      rw [if_neg h3, if_pos (by omega)]
      by_cases h4 : bt s 0 > 14
      · rw [if_pos h4, if_neg (fun q => by have := it.1 q; omega)]
      rw [if_neg h4, w64_small ((s.size : Int) - 1) (by omega) (by omega), if_pos (by omega), if_pos (by omega)]
      rw [show (((s.size : Int) - 1).toNat) = s.size - 1 from by omega, show ((s.size : Int) - 1) = ((s.size - 1 : Nat) : Int) from by omega]
      have hz : (s.extract 0 (s.size - 1)).size = s.size - 1 := by rw [ba_extract_size]; omega
      have r1 := bt_lt s ((s.size - 1 : Nat) : Int)
      rw [refChk_f id _ (by omega) k (by omega), w64_small (bt s ((s.size - 1 : Nat) : Int)) (by omega) (by omega), w64_small (bt s 0) (by omega) (by omega)]
      simp only [Option.bind_some]
      rw [if_pos (by omega)]
      have ec : refChkP id (s.extract 0 (s.size - 1)) = ((chk id.toNat (s.extract 0 (s.size - 1)) : Nat) : Int) := by unfold refChkP; rw [if_pos hi]
      rw [ec]
      by_cases h5 : ((chk id.toNat (s.extract 0 (s.size - 1)) : Nat) : Int) = bt s ((s.size - 1 : Nat) : Int)
      · rw [if_pos h5, if_pos (by omega), if_pos (it.2 ⟨by omega, by omega, by omega, h5⟩)]
      · rw [if_neg h5, if_neg (fun q => h5 (it.1 q).2.2.2)]
  unfold signalboxref40_Open.f
  by_cases h0 : id < 0
  · rw [if_pos h0]; exact J true (by simp; omega)
  · rw [if_neg h0]
    exact J _ (by simp only [decide_eq_true_eq]; omega)
end Go.Proofs.Ythgnhhdblbiihaa.P
