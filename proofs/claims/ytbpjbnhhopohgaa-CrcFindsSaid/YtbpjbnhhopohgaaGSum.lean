/- crc.Sum answers the check of bits, for a width of 1 to 30 and a poly below 2^width, or that there is none; no conditions. -/
import Derived.Test.YtbpjbnhhopohgaaGNumber
namespace Go.Proofs.Ytbpjbnhhopohgaa.P
open Go.RowKit Go.Proofs.YtbpjbnhhopohgaaW.PrintWords Go.Proofs.YtbpjbnhhopohgaaW.PrintLast Go.Proofs.YtbpjbnhhopohgaaW.PrintMore
set_option linter.unusedVariables false
set_option linter.unusedSimpArgs false

def crcStep (W P n : Nat) (b : UInt8) : Nat :=
  if (decide (n / 2 ^ (W - 1) = 1)) != (b == 49) then (2 * n) % 2 ^ W ^^^ P else (2 * n) % 2 ^ W
def crcN (W P : Nat) (l : List UInt8) : Nat := l.foldl (crcStep W P) 0
def crcOk (a1 a2 : Int) : Bool := decide (1 ≤ a1) && decide (a1 ≤ 30) && decide (0 ≤ a2) && decide (a2 < 2 ^ a1.toNat)
def crc_Sum.f (a0 : ByteArray) (a1 a2 : Int) : Option (Int × Bool) :=
  some (if bitsB a0 && crcOk a1 a2 then ((crcN a1.toNat a2.toNat a0.data.toList : Nat), true) else (0, false))

theorem crcStep_lt (W P n : Nat) (b : UInt8) (hP : P < 2 ^ W) : crcStep W P n b < 2 ^ W := by
  have h : (2 * n) % 2 ^ W < 2 ^ W := Nat.mod_lt _ (Nat.two_pow_pos W)
  unfold crcStep
  split
  · exact Nat.xor_lt_two_pow h hP
  · exact h
theorem crcN_snoc (W P : Nat) (l : List UInt8) (b : UInt8) : crcN W P (l ++ [b]) = crcStep W P (crcN W P l) b := by simp [crcN]
theorem crcFold_lt (W P : Nat) (hP : P < 2 ^ W) (l : List UInt8) : ∀ n, n < 2 ^ W → l.foldl (crcStep W P) n < 2 ^ W := by
  induction l with
  | nil => intro n h; exact h
  | cons b l ih => intro n _; exact ih _ (crcStep_lt W P n b hP)
theorem crcN_lt (W P : Nat) (hP : P < 2 ^ W) (l : List UInt8) : crcN W P l < 2 ^ W := crcFold_lt W P hP l 0 (Nat.two_pow_pos W)
theorem crc_mask (W : Nat) (hW : W ≤ 30) : wrap64 (wrap64 ((2 : Int) ^ W) - 1) = (2 : Int) ^ W - 1 := by
  have hp : (2 : Nat) ^ W ≤ 1073741824 := Nat.le_trans (Nat.pow_le_pow_right (by omega) hW) (by decide)
  have h1 : 1 ≤ 2 ^ W := Nat.one_le_two_pow
  have e : ((2 : Int) ^ W) = ((2 ^ W : Nat) : Int) := by push_cast; rfl
  rw [e]
  generalize 2 ^ W = q at *
  unfold wrap64
  omega
theorem crc_and (W n : Nat) (hW : W ≤ 30) (hn : n < 1073741824) : bits .and .i64 ((n : Int) * 2) (wrap64 (wrap64 ((2 : Int) ^ W) - 1)) = (((2 * n) % 2 ^ W : Nat) : Int) := by
  rw [crc_mask W hW, show (n : Int) * 2 = ((2 * n : Nat) : Int) from by omega, bits_and_mask _ _ (by omega) (by omega)]
theorem crc_eq (W n : Nat) : ((n : Int) / 2 ^ (W - 1) == 1) = decide (n / 2 ^ (W - 1) = 1) := by
  have e : (n : Int) / 2 ^ (W - 1) = ((n / 2 ^ (W - 1) : Nat) : Int) := by push_cast; rfl
  rw [e]
  generalize n / 2 ^ (W - 1) = q
  rw [Bool.eq_iff_iff]
  simp
  omega

set_option maxHeartbeats 1000000 in
set_option maxRecDepth 100000 in
theorem crc_Sum.calls (a0 : ByteArray) (a1 a2 : Int) (r1 : Int) (r2 : Bool) (w : World) (h : crc_Sum.f a0 a1 a2 = some (r1, r2)) :
    Calls Try.prog 16 #[.string a0, .int .i64 a1, .int .i64 a2] w fun e w' => e = .returned (.tuple #[.int .i64 r1, .bool r2]) ∧ Below w.heap.size w w' := by
  have hR := stuff_Right.calls a0 (bitsB a0) w rfl
  unfold crc_Sum.f at h
  cases hb : bitsB a0 with
  | false =>
    rw [hb] at h hR
    simp at h
    obtain ⟨rfl, rfl⟩ := h
    clear hb
    go_enter Try.func16, Try.ntmps16
    go_wp2_with (go_at_call 36; refine hR.mono ?_; rintro e w1 ⟨rfl, hb1⟩)
    go_ret2
    exact ⟨rfl, hb1⟩
  | true =>
    rw [hb] at h hR
    by_cases h1 : 1 ≤ a1
    · by_cases h2 : a1 ≤ 30
      · by_cases h3 : 0 ≤ a2
        · obtain ⟨W, rfl⟩ := Int.eq_ofNat_of_zero_le (show 0 ≤ a1 by omega)
          obtain ⟨P, rfl⟩ := Int.eq_ofNat_of_zero_le h3
          have e1 : decide ((W : Int) < 1) = false := decide_eq_false (by omega)
          have e2 : decide (30 < (W : Int)) = false := decide_eq_false (by omega)
          have e3 : decide ((P : Int) < 0) = false := decide_eq_false (by omega)
          have hW : W ≤ 30 := by omega
          have hW1 : 1 ≤ W := by omega
          have hc0 : (0 : Int) ≤ (W : Int) - 1 := by omega
          have hc1 : (W : Int) - 1 ≤ 63 := by omega
          have hpw : (2 : Nat) ^ W ≤ 1073741824 := Nat.le_trans (Nat.pow_le_pow_right (by omega) hW) (by decide)
          by_cases h4 : P < 2 ^ W
          · have e4 : decide ((0 : Int) < (P : Int) / 2 ^ W) = false := decide_eq_false (by
              have : (P : Int) / 2 ^ W = ((P / 2 ^ W : Nat) : Int) := by push_cast; rfl
              rw [this, Nat.div_eq_of_lt h4]
              simp)
            have HOK := Aside0.mk hb
            have HP := Aside0.mk h4
            have HPW := Aside0.mk hpw
            have hyes : crcOk (W : Int) (P : Int) = true := by
              have e : ((2 : Int) ^ W) = ((2 ^ W : Nat) : Int) := by push_cast; rfl
              simp only [crcOk, Int.toNat_natCast, e]
              simp
              omega
            rw [hyes] at h
            simp at h
            have HR1 := Aside0.mk h.1
            have HR2 := Aside0.mk h.2
            clear hb h4 h1 h2 h3 h hpw hyes
            go_enter Try.func16, Try.ntmps16
            go_wp2_with (go_at_call 36; refine hR.mono ?_; rintro e w1 ⟨rfl, hb1⟩)
            have hz1 : w.heap.size ≤ w1.heap.size := hb1.size
            go_loopw [8] (fun v wr => ∃ pos : Nat, pos ≤ a0.size ∧ wr.heap[w1.heap.size]? = some (.stringIter a0 pos) ∧ Below w.heap.size w wr ∧ v = .int .i64 (crcN W P (a0.data.toList.take pos) : Nat)) (fun _ wr => a0.size - wr.iterPos w1.heap.size)
            case atStart => exact ⟨0, Nat.zero_le _, World.iter_heap w1 a0 0, hb1.alloc hz1 _, rfl⟩
            case round =>
              obtain ⟨pos, hps, hit, hbw, rfl⟩ := hrel
              have hsz : w1.heap.size < wr.heap.size := (Array.getElem?_eq_some_iff.1 hit).1
              by_cases hp : pos < a0.size
              · have hnx : ∀ ty, (Instr.next (.pointer (some ⟨w1.heap.size, 0, none⟩)) true ty).run Try.prog wr = _ := fun ty => Lib.run_next_any_at wr w1.heap.size a0 pos ty hit hp
                have hbw2 := Lib.below_iterAt hbw (k := w1.heap.size) hz1 a0 (pos + 1)
                rcases decode_bit a0 pos hp with ⟨h1, h2, h3, h4⟩ | ⟨h1, h2, h3⟩
                · rw [h3] at hnx
                  have hit2 := Lib.iterAt_heap wr w1.heap.size a0 pos (pos + 1) hit
                  have HT := Aside0.mk (take_snoc a0 pos hp)
                  obtain ⟨n, hn⟩ : ∃ n, n = crcN W P (a0.data.toList.take pos) := ⟨_, rfl⟩
                  rw [← hn]
                  have HN := Aside0.mk hn
                  clear hn
                  have hn1 : n < 1073741824 := by
                    have h := crcN_lt W P HP.out (a0.data.toList.take pos)
                    rw [HN.out]
                    exact Nat.lt_of_lt_of_le h HPW.out
                  have hm1 : (2 * n) % 2 ^ W < 1073741824 := Nat.lt_of_lt_of_le (Nat.mod_lt _ (Nat.two_pow_pos W)) HPW.out
                  have hP1 : P < 1073741824 := Nat.lt_of_lt_of_le HP.out HPW.out
                  have HX := Aside0.mk (bits_xor ((2 * n) % 2 ^ W) P (by omega) (by omega))
                  have HA := Aside0.mk (crc_and W n hW hn1)
                  clear hm1
                  have HB : Aside0 ((a0[pos] == 49) = ((Utf8.decode a0 pos).1 == 49)) := ⟨by
                    rw [h4, Bool.eq_iff_iff, beq_iff_eq, beq_iff_eq, ← UInt8.toNat_inj]
                    rfl⟩
                  have HE := Aside0.mk (crc_eq W n)
                  clear h2 h3 h4
                  generalize (Utf8.decode a0 pos).1 = q at *
                  cases hd : decide (n / 2 ^ (W - 1) = 1)
                  all_goals
                    have hh : ((n : Int) / 2 ^ (W - 1) == 1) = _ := HE.out.trans hd
                    have HD := Aside0.mk hd
                    clear hd
                    rcases h1 with rfl | rfl
                    all_goals
                      go_wp2
                      go_roundw
                      case rel =>
                        refine ⟨pos + 1, by omega, hit2, hbw2, ?_⟩
                        rw [HT.out, crcN_snoc, ← HN.out, crcStep, HD.out, HB.out]
                        simp only [HA.out, HX.out]
                        rfl
                      case measure =>
                        simp only [World.iterPos, hit2, hit]
                        omega
                · rw [bitsB_at HOK.out pos hp] at h3
                  cases h3
              · have hnx : ∀ ty, (Instr.next (.pointer (some ⟨w1.heap.size, 0, none⟩)) true ty).run Try.prog wr = _ := fun ty => Lib.run_next_end_at wr w1.heap.size a0 pos ty hit hp
                have HT : Aside0 (a0.data.toList.take pos = a0.data.toList) := ⟨List.take_of_length_le (by simp; omega)⟩
                go_wp2
                go_ret2
                exact ⟨by rw [HT.out, ← HR1.out, ← HR2.out]; rfl, hbw⟩
          · have e4 : decide ((0 : Int) < (P : Int) / 2 ^ W) = true := decide_eq_true (by
              have : (P : Int) / 2 ^ W = ((P / 2 ^ W : Nat) : Int) := by push_cast; rfl
              rw [this]
              have : 0 < P / 2 ^ W := Nat.div_pos (by omega) (Nat.two_pow_pos W)
              omega)
            have hno : crcOk (W : Int) (P : Int) = false := by
              have e : ((2 : Int) ^ W) = ((2 ^ W : Nat) : Int) := by push_cast; rfl
              simp only [crcOk, Int.toNat_natCast, e]
              simp
              omega
            rw [hno] at h
            simp at h
            obtain ⟨rfl, rfl⟩ := h
            clear hb h4 h1 h2 h3 hno
            go_enter Try.func16, Try.ntmps16
            go_wp2_with (go_at_call 36; refine hR.mono ?_; rintro e w1 ⟨rfl, hb1⟩)
            go_ret2
            exact ⟨rfl, hb1⟩
        · have hno : crcOk a1 a2 = false := by simp [crcOk]; omega
          rw [hno] at h
          simp at h
          obtain ⟨rfl, rfl⟩ := h
          have e1 : decide (a1 < 1) = false := decide_eq_false (by omega)
          have e2 : decide (30 < a1) = false := decide_eq_false (by omega)
          have e3 : decide (a2 < 0) = true := decide_eq_true (by omega)
          clear hb h1 h2 h3 hno
          go_enter Try.func16, Try.ntmps16
          go_wp2_with (go_at_call 36; refine hR.mono ?_; rintro e w1 ⟨rfl, hb1⟩)
          go_ret2
          exact ⟨rfl, hb1⟩
      · have hno : crcOk a1 a2 = false := by simp [crcOk]; omega
        rw [hno] at h
        simp at h
        obtain ⟨rfl, rfl⟩ := h
        have e1 : decide (a1 < 1) = false := decide_eq_false (by omega)
        have e2 : decide (30 < a1) = true := decide_eq_true (by omega)
        clear hb h1 h2 hno
        go_enter Try.func16, Try.ntmps16
        go_wp2_with (go_at_call 36; refine hR.mono ?_; rintro e w1 ⟨rfl, hb1⟩)
        go_ret2
        exact ⟨rfl, hb1⟩
    · have hno : crcOk a1 a2 = false := by simp [crcOk]; omega
      rw [hno] at h
      simp at h
      obtain ⟨rfl, rfl⟩ := h
      have e1 : decide (a1 < 1) = true := decide_eq_true (by omega)
      clear hb h1 hno
      go_enter Try.func16, Try.ntmps16
      go_wp2_with (go_at_call 36; refine hR.mono ?_; rintro e w1 ⟨rfl, hb1⟩)
      go_ret2
      exact ⟨rfl, hb1⟩
end Go.Proofs.Ytbpjbnhhopohgaa.P
