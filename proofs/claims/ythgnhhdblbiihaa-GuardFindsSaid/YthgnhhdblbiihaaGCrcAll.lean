/- Several texts of this session's own as one. -/
import Derived.Test.YthgnhhdblbiihaaP0
import Derived.Lib.OthersKept
import Derived.Test.YthgnhhdblbiihaaGBase
import Derived.LoopTactic
namespace Go.Proofs.Ythgnhhdblbiihaa.P
open Go.RowKit Go.Proofs.YthgnhhdblbiihaaW.PrintWords Go.Proofs.YthgnhhdblbiihaaW.PrintLast Go.Proofs.YthgnhhdblbiihaaW.PrintMore
set_option linter.unusedVariables false
set_option linter.unusedSimpArgs false

def isBit (b : UInt8) : Bool := b == 48 || b == 49
def bitsB (s : ByteArray) : Bool := s.data.toList.all isBit
def stuff_Right.f (a0 : ByteArray) : Option Bool := some (bitsB a0)

theorem bitsB_at {s : ByteArray} (h : bitsB s = true) (i : Nat) (hi : i < s.size) : isBit s[i] = true := by
  unfold bitsB at h
  rw [List.all_eq_true] at h
  exact h _ (by simp [ByteArray.getElem_eq_getElem_data])
theorem bitsB_of {s : ByteArray} (h : ∀ i (hi : i < s.size), isBit s[i] = true) : bitsB s = true := by
  unfold bitsB
  rw [List.all_eq_true]
  intro b hb
  obtain ⟨i, hi, rfl⟩ := List.mem_iff_getElem.1 hb
  have := h i (by simpa using hi)
  simpa [ByteArray.getElem_eq_getElem_data] using this
theorem bitsB_not {s : ByteArray} (i : Nat) (hi : i < s.size) (h : isBit s[i] = false) : bitsB s = false := by
  cases hb : bitsB s with
  | false => rfl
  | true => rw [bitsB_at hb i hi] at h; cases h
/-- The rune at pos is a bit just if the byte is; it is one byte wide then. -/
theorem decode_bit (s : ByteArray) (pos : Nat) (h : pos < s.size) :
    (((Utf8.decode s pos).1 = 48 ∨ (Utf8.decode s pos).1 = 49) ∧ isBit s[pos] = true ∧ (Utf8.decode s pos).2 = 1 ∧ (Utf8.decode s pos).1 = s[pos].toNat) ∨
    ((Utf8.decode s pos).1 ≠ 48 ∧ (Utf8.decode s pos).1 ≠ 49 ∧ isBit s[pos] = false) := by
  by_cases ha : (s[pos]'h).toNat < 128
  · rw [decode_ascii s pos h ha]
    simp only [isBit, Bool.or_eq_true, beq_iff_eq, Bool.or_eq_false_iff, beq_eq_false_iff_ne, ne_eq, ← UInt8.toNat_inj]
    simp
    omega
  · have := decode_high s pos h (by omega)
    right
    simp only [isBit, Bool.or_eq_false_iff, beq_eq_false_iff_ne, ne_eq, ← UInt8.toNat_inj]
    simp
    omega

set_option maxHeartbeats 1000000 in
set_option maxRecDepth 100000 in
theorem stuff_Right.calls (a0 : ByteArray) (r : Bool) (w : World) (h : stuff_Right.f a0 = some r) :
    Calls Try.prog 46 #[.string a0] w fun e w' => e = .returned (.bool r) ∧ Below w.heap.size w w' := by
  obtain rfl := Option.some.inj h
  clear h
  go_enter Try.func46, Try.ntmps46
  go_wp2
  go_loopw [] (fun wr => ∃ pos : Nat, pos ≤ a0.size ∧ wr.heap[w.heap.size]? = some (.stringIter a0 pos) ∧ Below w.heap.size w wr ∧ ∀ i (hi : i < a0.size), i < pos → isBit a0[i] = true) (fun wr => a0.size - wr.iterPos w.heap.size)
  case atStart =>
    exact ⟨0, Nat.zero_le _, World.iter_heap w a0 0, (Below.refl _ w).alloc (Nat.le_refl _) _, fun i hi h0 => absurd h0 (by omega)⟩
  case round =>
    obtain ⟨pos, hps, hit, hbw, hall⟩ := hrel
    have hsz : w.heap.size < wr.heap.size := (Array.getElem?_eq_some_iff.1 hit).1
    have HALL := Aside0.mk hall
    clear hall
    by_cases hp : pos < a0.size
    · have hnx : ∀ ty, (Instr.next (.pointer (some ⟨w.heap.size, 0, none⟩)) true ty).run Try.prog wr = _ := fun ty => Lib.run_next_any_at wr w.heap.size a0 pos ty hit hp
      have hbw2 := Lib.below_iterAt hbw (k := w.heap.size) (by omega) a0 (pos + (Utf8.decode a0 pos).2)
      rcases decode_bit a0 pos hp with ⟨h1, h2, h3, h4⟩ | ⟨h1, h2, h3⟩
      · rw [h3] at hnx hbw2
        have hit2 := Lib.iterAt_heap wr w.heap.size a0 pos (pos + 1) hit
        have H2 := Aside0.mk h2
        have H4 := Aside0.mk h4
        clear h2 h3 h4
        generalize (Utf8.decode a0 pos).1 = q at *
        rcases h1 with rfl | rfl
        all_goals
          go_wp2
          go_roundw
          case rel =>
            refine ⟨pos + 1, by omega, hit2, hbw2, fun i hi hip => ?_⟩
            by_cases e : i = pos
            · subst e; exact H2.out
            · exact HALL.out i hi (by omega)
          case measure =>
            simp only [World.iterPos, hit2, hit]
            omega
      · have hF := Aside0.mk (bitsB_not pos hp h3)
        clear h3
        generalize (Utf8.decode a0 pos).1 = q at *
        generalize wr.iterAt w.heap.size a0 (pos + (Utf8.decode a0 pos).2) = w2 at *
        have b1 : ((q : Int) != 48) = true := by rw [bne_iff_ne]; omega
        have b2 : ((q : Int) != 49) = true := by rw [bne_iff_ne]; omega
        clear h1 h2
        go_wp2
        go_ret
        exact ⟨by rw [hF.out]; rfl, hbw2⟩
    · have hnx : ∀ ty, (Instr.next (.pointer (some ⟨w.heap.size, 0, none⟩)) true ty).run Try.prog wr = _ := fun ty => Lib.run_next_end_at wr w.heap.size a0 pos ty hit hp
      have hT := Aside0.mk (bitsB_of fun i hi => HALL.out i hi (by omega))
      go_wp2
      go_ret
      exact ⟨by rw [hT.out]; rfl, hbw⟩
end Go.Proofs.Ythgnhhdblbiihaa.P

namespace Go.Proofs.Ythgnhhdblbiihaa.P
open Go.RowKit Go.Proofs.YthgnhhdblbiihaaW.PrintWords Go.Proofs.YthgnhhdblbiihaaW.PrintLast Go.Proofs.YthgnhhdblbiihaaW.PrintMore
set_option linter.unusedVariables false
set_option linter.unusedSimpArgs false

def bitN (b : UInt8) : Nat := if b = 49 then 1 else 0
def bitsNum (l : List UInt8) : Nat := l.foldl (fun n b => 2 * n + bitN b) 0
def crc_Number.f (a0 : ByteArray) : Option (Int × Bool) := some (if bitsB a0 && decide (a0.size ≤ 60) then ((bitsNum a0.data.toList : Nat), true) else (0, false))
theorem bitsNum_snoc (l : List UInt8) (b : UInt8) : bitsNum (l ++ [b]) = 2 * bitsNum l + bitN b := by simp [bitsNum]
theorem bitN_lt (b : UInt8) : bitN b < 2 := by unfold bitN; split <;> omega
theorem bitsNum_lt (l : List UInt8) : bitsNum l < 2 ^ l.length := by
  suffices h : ∀ n : Nat, ∀ l : List UInt8, l.length = n → bitsNum l < 2 ^ l.length from h _ l rfl
  intro n
  induction n with
  | zero => intro l hl; obtain rfl := List.eq_nil_of_length_eq_zero hl; simp [bitsNum]
  | succ n ih =>
    intro l hl
    obtain ⟨l', b, rfl⟩ : ∃ l' b, l = l' ++ [b] := ⟨l.dropLast, l.getLast (by intro e; simp [e] at hl), (List.dropLast_concat_getLast _).symm⟩
    have := ih l' (by simpa using hl)
    rw [bitsNum_snoc, List.length_append, List.length_singleton, Nat.pow_succ]
    have := bitN_lt b
    omega
theorem take_snoc (s : ByteArray) (k : Nat) (h : k < s.size) : s.data.toList.take (k + 1) = s.data.toList.take k ++ [s[k]] := by
  rw [List.take_succ_eq_append_getElem (by simpa using h)]; rfl

set_option maxHeartbeats 1000000 in
set_option maxRecDepth 100000 in
theorem crc_Number.calls (a0 : ByteArray) (r1 : Int) (r2 : Bool) (w : World) (h : crc_Number.f a0 = some (r1, r2)) :
    Calls Try.prog 25 #[.string a0] w fun e w' => e = .returned (.tuple #[.int .i64 r1, .bool r2]) ∧ Below w.heap.size w w' := by
  have hR := stuff_Right.calls a0 (bitsB a0) w rfl
  unfold crc_Number.f at h
  cases hb : bitsB a0 with
  | false =>
    rw [hb] at h hR
    simp at h
    obtain ⟨rfl, rfl⟩ := h
    clear hb
    go_enter Try.func25, Try.ntmps25
    go_wp2_with (go_at_call 46; refine hR.mono ?_; rintro e w1 ⟨rfl, hb1⟩)
    go_ret2
    exact ⟨rfl, hb1⟩
  | true =>
    rw [hb] at h hR
    by_cases hs : a0.size ≤ 60
    · simp [hs] at h
      obtain ⟨rfl, rfl⟩ := h
      have HBB := Aside0.mk hb
      clear hb
      go_enter Try.func25, Try.ntmps25
      go_wp2_with (go_at_call 46; refine hR.mono ?_; rintro e w1 ⟨rfl, hb1⟩)
      have hz1 : w.heap.size ≤ w1.heap.size := hb1.size
      go_loopw [4] (fun v wr => ∃ pos : Nat, pos ≤ a0.size ∧ wr.heap[w1.heap.size]? = some (.stringIter a0 pos) ∧ Below w.heap.size w wr ∧ v = .int .i64 (bitsNum (a0.data.toList.take pos) : Nat)) (fun _ wr => a0.size - wr.iterPos w1.heap.size)
      case atStart => exact ⟨0, Nat.zero_le _, World.iter_heap w1 a0 0, hb1.alloc hz1 _, rfl⟩
      case round =>
        obtain ⟨pos, hps, hit, hbw, rfl⟩ := hrel
        have hsz : w1.heap.size < wr.heap.size := (Array.getElem?_eq_some_iff.1 hit).1
        by_cases hp : pos < a0.size
        · have hnx : ∀ ty, (Instr.next (.pointer (some ⟨w1.heap.size, 0, none⟩)) true ty).run Try.prog wr = _ := fun ty => Lib.run_next_any_at wr w1.heap.size a0 pos ty hit hp
          have hbw2 := Lib.below_iterAt hbw (k := w1.heap.size) hz1 a0 (pos + 1)
          rcases decode_bit a0 pos hp with ⟨h1, h2, h3, h4⟩ | ⟨h1, h2, h3⟩
          · rw [h3] at hnx
            have hit2 := Lib.iterAt_heap wr w1.heap.size a0 pos (pos + 1) hit
            have HT := Aside0.mk (take_snoc a0 pos hp)
            have hlt := bitsNum_lt (a0.data.toList.take pos)
            have hlt2 : bitsNum (a0.data.toList.take pos) < 576460752303423488 := by
              refine Nat.lt_of_lt_of_le hlt (Nat.le_trans (Nat.pow_le_pow_right (by omega) (?_ : _ ≤ 59)) (by decide))
              rw [List.length_take]; omega
            clear hlt
            have HB : Aside0 (bitN a0[pos] = (Utf8.decode a0 pos).1 - 48) := ⟨by
              rw [h4] at h1 ⊢
              unfold bitN
              split
              · rename_i e; rw [e]; rfl
              · rename_i e
                have : a0[pos].toNat ≠ 49 := fun e2 => e (UInt8.toNat_inj.1 e2)
                omega⟩
            clear h2 h3 h4
            obtain ⟨n, hn⟩ : ∃ n, n = bitsNum (a0.data.toList.take pos) := ⟨_, rfl⟩
            rw [← hn] at hlt2 ⊢
            have HN := Aside0.mk hn
            clear hn
            generalize (Utf8.decode a0 pos).1 = q at *
            rcases h1 with rfl | rfl
            · have hor := bits_or_bit0 n (by omega)
              go_wp2
              go_roundw
              case rel =>
                refine ⟨pos + 1, by omega, hit2, hbw2, ?_⟩
                rw [HT.out, bitsNum_snoc, HB.out, ← HN.out]
                simp
              case measure =>
                simp only [World.iterPos, hit2, hit]
                omega
            · have hor := bits_or_bit1 n (by omega)
              go_wp2
              go_roundw
              case rel =>
                refine ⟨pos + 1, by omega, hit2, hbw2, ?_⟩
                rw [HT.out, bitsNum_snoc, HB.out, ← HN.out]
                simp
              case measure =>
                simp only [World.iterPos, hit2, hit]
                omega
          · rw [bitsB_at HBB.out pos hp] at h3
            cases h3
        · have hnx : ∀ ty, (Instr.next (.pointer (some ⟨w1.heap.size, 0, none⟩)) true ty).run Try.prog wr = _ := fun ty => Lib.run_next_end_at wr w1.heap.size a0 pos ty hit hp
          have HT : Aside0 (a0.data.toList.take pos = a0.data.toList) := ⟨List.take_of_length_le (by simp; omega)⟩
          go_wp2
          go_ret2
          exact ⟨by rw [HT.out]; rfl, hbw⟩
    · simp [hs] at h
      obtain ⟨rfl, rfl⟩ := h
      clear hb
      go_enter Try.func25, Try.ntmps25
      go_wp2_with (go_at_call 46; refine hR.mono ?_; rintro e w1 ⟨rfl, hb1⟩)
      go_ret2
      exact ⟨rfl, hb1⟩
end Go.Proofs.Ythgnhhdblbiihaa.P

namespace Go.Proofs.Ythgnhhdblbiihaa.P
open Go.RowKit Go.Proofs.YthgnhhdblbiihaaW.PrintWords Go.Proofs.YthgnhhdblbiihaaW.PrintLast Go.Proofs.YthgnhhdblbiihaaW.PrintMore
set_option linter.unusedVariables false
set_option linter.unusedSimpArgs false

def crcStep (W P n : Nat) (b : UInt8) : Nat :=
  if (decide (n / 2 ^ (W - 1) = 1)) != (b == 49) then (2 * n) % 2 ^ W ^^^ P else (2 * n) % 2 ^ W
def crcN (W P : Nat) (l : List UInt8) : Nat := l.foldl (crcStep W P) 0
def crcOk (a1 a2 : Int) : Bool := decide (1 ≤ a1) && decide (a1 ≤ 30) && decide (0 ≤ a2) && decide (a2 < 2 ^ a1.toNat)
def crc_Sum.f (a0 : ByteArray) (a1 a2 : Int) : Option (Int × Bool) :=
  some (if bitsB a0 && crcOk a1 a2 then ((crcN a1.toNat a2.toNat a0.data.toList : Nat), true) else (0, false))

theorem crcStep_lt (W P n : Nat) (b : UInt8) (hP : P < 2 ^ W) : crcStep W P n b < 2 ^ W := by
  have h : (2 * n) % 2 ^ W < 2 ^ W := Nat.mod_lt _ (Nat.two_pow_pos W)
  unfold crcStep
  split
  · exact Nat.xor_lt_two_pow h hP
  · exact h
theorem crcN_snoc (W P : Nat) (l : List UInt8) (b : UInt8) : crcN W P (l ++ [b]) = crcStep W P (crcN W P l) b := by simp [crcN]
theorem crcFold_lt (W P : Nat) (hP : P < 2 ^ W) (l : List UInt8) : ∀ n, n < 2 ^ W → l.foldl (crcStep W P) n < 2 ^ W := by
  induction l with
  | nil => intro n h; exact h
  | cons b l ih => intro n _; exact ih _ (crcStep_lt W P n b hP)
theorem crcN_lt (W P : Nat) (hP : P < 2 ^ W) (l : List UInt8) : crcN W P l < 2 ^ W := crcFold_lt W P hP l 0 (Nat.two_pow_pos W)
theorem crc_mask (W : Nat) (hW : W ≤ 30) : wrap64 (wrap64 ((2 : Int) ^ W) - 1) = (2 : Int) ^ W - 1 := by
  have hp : (2 : Nat) ^ W ≤ 1073741824 := Nat.le_trans (Nat.pow_le_pow_right (by omega) hW) (by decide)
  have h1 : 1 ≤ 2 ^ W := Nat.one_le_two_pow
  have e : ((2 : Int) ^ W) = ((2 ^ W : Nat) : Int) := by push_cast; rfl
  rw [e]
  generalize 2 ^ W = q at *
  unfold wrap64
  omega
theorem crc_and (W n : Nat) (hW : W ≤ 30) (hn : n < 1073741824) : bits .and .i64 ((n : Int) * 2) (wrap64 (wrap64 ((2 : Int) ^ W) - 1)) = (((2 * n) % 2 ^ W : Nat) : Int) := by
  rw [crc_mask W hW, show (n : Int) * 2 = ((2 * n : Nat) : Int) from by omega, bits_and_mask _ _ (by omega) (by omega)]
theorem crc_eq (W n : Nat) : ((n : Int) / 2 ^ (W - 1) == 1) = decide (n / 2 ^ (W - 1) = 1) := by
  have e : (n : Int) / 2 ^ (W - 1) = ((n / 2 ^ (W - 1) : Nat) : Int) := by push_cast; rfl
  rw [e]
  generalize n / 2 ^ (W - 1) = q
  rw [Bool.eq_iff_iff]
  simp
  omega

set_option maxHeartbeats 1000000 in
set_option maxRecDepth 100000 in
theorem crc_Sum.calls (a0 : ByteArray) (a1 a2 : Int) (r1 : Int) (r2 : Bool) (w : World) (h : crc_Sum.f a0 a1 a2 = some (r1, r2)) :
    Calls Try.prog 39 #[.string a0, .int .i64 a1, .int .i64 a2] w fun e w' => e = .returned (.tuple #[.int .i64 r1, .bool r2]) ∧ Below w.heap.size w w' := by
  have hR := stuff_Right.calls a0 (bitsB a0) w rfl
  unfold crc_Sum.f at h
  cases hb : bitsB a0 with
  | false =>
    rw [hb] at h hR
    simp at h
    obtain ⟨rfl, rfl⟩ := h
    clear hb
    go_enter Try.func39, Try.ntmps39
    go_wp2_with (go_at_call 46; refine hR.mono ?_; rintro e w1 ⟨rfl, hb1⟩)
    go_ret2
    exact ⟨rfl, hb1⟩
  | true =>
    rw [hb] at h hR
    by_cases h1 : 1 ≤ a1
    · by_cases h2 : a1 ≤ 30
      · by_cases h3 : 0 ≤ a2
        · obtain ⟨W, rfl⟩ := Int.eq_ofNat_of_zero_le (show 0 ≤ a1 by omega)
          obtain ⟨P, rfl⟩ := Int.eq_ofNat_of_zero_le h3
          have e1 : decide ((W : Int) < 1) = false := decide_eq_false (by omega)
          have e2 : decide (30 < (W : Int)) = false := decide_eq_false (by omega)
          have e3 : decide ((P : Int) < 0) = false := decide_eq_false (by omega)
          have hW : W ≤ 30 := by omega
          have hW1 : 1 ≤ W := by omega
          have hc0 : (0 : Int) ≤ (W : Int) - 1 := by omega
          have hc1 : (W : Int) - 1 ≤ 63 := by omega
          have hpw : (2 : Nat) ^ W ≤ 1073741824 := Nat.le_trans (Nat.pow_le_pow_right (by omega) hW) (by decide)
          by_cases h4 : P < 2 ^ W
          · have e4 : decide ((0 : Int) < (P : Int) / 2 ^ W) = false := decide_eq_false (by
              have : (P : Int) / 2 ^ W = ((P / 2 ^ W : Nat) : Int) := by push_cast; rfl
              rw [this, Nat.div_eq_of_lt h4]
              simp)
            have HOK := Aside0.mk hb
            have HP := Aside0.mk h4
            have HPW := Aside0.mk hpw
            have hyes : crcOk (W : Int) (P : Int) = true := by
              have e : ((2 : Int) ^ W) = ((2 ^ W : Nat) : Int) := by push_cast; rfl
              simp only [crcOk, Int.toNat_natCast, e]
              simp
              omega
            rw [hyes] at h
            simp at h
            have HR1 := Aside0.mk h.1
            have HR2 := Aside0.mk h.2
            clear hb h4 h1 h2 h3 h hpw hyes
            go_enter Try.func39, Try.ntmps39
            go_wp2_with (go_at_call 46; refine hR.mono ?_; rintro e w1 ⟨rfl, hb1⟩)
            have hz1 : w.heap.size ≤ w1.heap.size := hb1.size
            go_loopw [8] (fun v wr => ∃ pos : Nat, pos ≤ a0.size ∧ wr.heap[w1.heap.size]? = some (.stringIter a0 pos) ∧ Below w.heap.size w wr ∧ v = .int .i64 (crcN W P (a0.data.toList.take pos) : Nat)) (fun _ wr => a0.size - wr.iterPos w1.heap.size)
            case atStart => exact ⟨0, Nat.zero_le _, World.iter_heap w1 a0 0, hb1.alloc hz1 _, rfl⟩
            case round =>
              obtain ⟨pos, hps, hit, hbw, rfl⟩ := hrel
              have hsz : w1.heap.size < wr.heap.size := (Array.getElem?_eq_some_iff.1 hit).1
              by_cases hp : pos < a0.size
              · have hnx : ∀ ty, (Instr.next (.pointer (some ⟨w1.heap.size, 0, none⟩)) true ty).run Try.prog wr = _ := fun ty => Lib.run_next_any_at wr w1.heap.size a0 pos ty hit hp
                have hbw2 := Lib.below_iterAt hbw (k := w1.heap.size) hz1 a0 (pos + 1)
                rcases decode_bit a0 pos hp with ⟨h1, h2, h3, h4⟩ | ⟨h1, h2, h3⟩
                · rw [h3] at hnx
                  have hit2 := Lib.iterAt_heap wr w1.heap.size a0 pos (pos + 1) hit
                  have HT := Aside0.mk (take_snoc a0 pos hp)
                  obtain ⟨n, hn⟩ : ∃ n, n = crcN W P (a0.data.toList.take pos) := ⟨_, rfl⟩
                  rw [← hn]
                  have HN := Aside0.mk hn
                  clear hn
                  have hn1 : n < 1073741824 := by
                    have h := crcN_lt W P HP.out (a0.data.toList.take pos)
                    rw [HN.out]
                    exact Nat.lt_of_lt_of_le h HPW.out
                  have hm1 : (2 * n) % 2 ^ W < 1073741824 := Nat.lt_of_lt_of_le (Nat.mod_lt _ (Nat.two_pow_pos W)) HPW.out
                  have hP1 : P < 1073741824 := Nat.lt_of_lt_of_le HP.out HPW.out
                  have HX := Aside0.mk (bits_xor ((2 * n) % 2 ^ W) P (by omega) (by omega))
                  have HA := Aside0.mk (crc_and W n hW hn1)
                  clear hm1
                  have HB : Aside0 ((a0[pos] == 49) = ((Utf8.decode a0 pos).1 == 49)) := ⟨by
                    rw [h4, Bool.eq_iff_iff, beq_iff_eq, beq_iff_eq, ← UInt8.toNat_inj]
                    rfl⟩
                  have HE := Aside0.mk (crc_eq W n)
                  clear h2 h3 h4
                  generalize (Utf8.decode a0 pos).1 = q at *
                  cases hd : decide (n / 2 ^ (W - 1) = 1)
                  all_goals
                    have hh : ((n : Int) / 2 ^ (W - 1) == 1) = _ := HE.out.trans hd
                    have HD := Aside0.mk hd
                    clear hd
                    rcases h1 with rfl | rfl
                    all_goals
                      go_wp2
                      go_roundw
                      case rel =>
                        refine ⟨pos + 1, by omega, hit2, hbw2, ?_⟩
                        rw [HT.out, crcN_snoc, ← HN.out, crcStep, HD.out, HB.out]
                        simp only [HA.out, HX.out]
                        rfl
                      case measure =>
                        simp only [World.iterPos, hit2, hit]
                        omega
                · rw [bitsB_at HOK.out pos hp] at h3
                  cases h3
              · have hnx : ∀ ty, (Instr.next (.pointer (some ⟨w1.heap.size, 0, none⟩)) true ty).run Try.prog wr = _ := fun ty => Lib.run_next_end_at wr w1.heap.size a0 pos ty hit hp
                have HT : Aside0 (a0.data.toList.take pos = a0.data.toList) := ⟨List.take_of_length_le (by simp; omega)⟩
                go_wp2
                go_ret2
                exact ⟨by rw [HT.out, ← HR1.out, ← HR2.out]; rfl, hbw⟩
          · have e4 : decide ((0 : Int) < (P : Int) / 2 ^ W) = true := decide_eq_true (by
              have : (P : Int) / 2 ^ W = ((P / 2 ^ W : Nat) : Int) := by push_cast; rfl
              rw [this]
              have : 0 < P / 2 ^ W := Nat.div_pos (by omega) (Nat.two_pow_pos W)
              omega)
            have hno : crcOk (W : Int) (P : Int) = false := by
              have e : ((2 : Int) ^ W) = ((2 ^ W : Nat) : Int) := by push_cast; rfl
              simp only [crcOk, Int.toNat_natCast, e]
              simp
              omega
            rw [hno] at h
            simp at h
            obtain ⟨rfl, rfl⟩ := h
            clear hb h4 h1 h2 h3 hno
            go_enter Try.func39, Try.ntmps39
            go_wp2_with (go_at_call 46; refine hR.mono ?_; rintro e w1 ⟨rfl, hb1⟩)
            go_ret2
            exact ⟨rfl, hb1⟩
        · have hno : crcOk a1 a2 = false := by simp [crcOk]; omega
          rw [hno] at h
          simp at h
          obtain ⟨rfl, rfl⟩ := h
          have e1 : decide (a1 < 1) = false := decide_eq_false (by omega)
          have e2 : decide (30 < a1) = false := decide_eq_false (by omega)
          have e3 : decide (a2 < 0) = true := decide_eq_true (by omega)
          clear hb h1 h2 h3 hno
          go_enter Try.func39, Try.ntmps39
          go_wp2_with (go_at_call 46; refine hR.mono ?_; rintro e w1 ⟨rfl, hb1⟩)
          go_ret2
          exact ⟨rfl, hb1⟩
      · have hno : crcOk a1 a2 = false := by simp [crcOk]; omega
        rw [hno] at h
        simp at h
        obtain ⟨rfl, rfl⟩ := h
        have e1 : decide (a1 < 1) = false := decide_eq_false (by omega)
        have e2 : decide (30 < a1) = true := decide_eq_true (by omega)
        clear hb h1 h2 hno
        go_enter Try.func39, Try.ntmps39
        go_wp2_with (go_at_call 46; refine hR.mono ?_; rintro e w1 ⟨rfl, hb1⟩)
        go_ret2
        exact ⟨rfl, hb1⟩
    · have hno : crcOk a1 a2 = false := by simp [crcOk]; omega
      rw [hno] at h
      simp at h
      obtain ⟨rfl, rfl⟩ := h
      have e1 : decide (a1 < 1) = true := decide_eq_true (by omega)
      clear hb h1 hno
      go_enter Try.func39, Try.ntmps39
      go_wp2_with (go_at_call 46; refine hR.mono ?_; rintro e w1 ⟨rfl, hb1⟩)
      go_ret2
      exact ⟨rfl, hb1⟩
end Go.Proofs.Ythgnhhdblbiihaa.P

namespace Go.Proofs.Ythgnhhdblbiihaa.P
open Go.RowKit Go.Proofs.YthgnhhdblbiihaaW.PrintWords Go.Proofs.YthgnhhdblbiihaaW.PrintLast Go.Proofs.YthgnhhdblbiihaaW.PrintMore
set_option linter.unusedVariables false
set_option linter.unusedSimpArgs false

def bitAt (n W i : Nat) : Int := 48 + ((n / 2 ^ (W - 1 - i)) % 2 : Nat)
def bitsL (n W : Nat) : List Int := (List.range W).map (bitAt n W)
def bitsOk (a0 a1 : Int) : Bool := decide (0 ≤ a0) && decide (0 ≤ a1) && decide (a1 ≤ 60)
def crc_Bits.f (a0 a1 : Int) : Option ByteArray := if bitsOk a0 a1 then (if a0 < 9223372036854775808 then some (strOfNums (bitsL a0.toNat a1.toNat)) else none) else some ⟨#[]⟩

theorem bitsL_length (n W : Nat) : (bitsL n W).length = W := by simp [bitsL]
theorem bitsL_take (n W k : Nat) (h : k < W) : (bitsL n W).take (k + 1) = (bitsL n W).take k ++ [bitAt n W k] := by
  rw [List.take_succ_eq_append_getElem (by rw [bitsL_length]; exact h)]
  simp [bitsL]

theorem bitAt_eq (n W k : Nat) (hn : n < 9223372036854775808) : (48 + bits .and .i64 ((n : Int) / 2 ^ (W - 1 - k)) 1) % 256 = bitAt n W k := by
  have e : (n : Int) / 2 ^ (W - 1 - k) = ((n / 2 ^ (W - 1 - k) : Nat) : Int) := by push_cast; rfl
  have hq : n / 2 ^ (W - 1 - k) < 9223372036854775808 := Nat.lt_of_le_of_lt (Nat.div_le_self _ _) hn
  rw [e, bits_and_one _ hq, bitAt]
  generalize n / 2 ^ (W - 1 - k) = q
  omega

set_option maxHeartbeats 1000000 in
set_option maxRecDepth 100000 in
theorem crc_Bits.calls (a0 a1 : Int) (r : ByteArray) (w : World) (h : crc_Bits.f a0 a1 = some r) :
    Calls Try.prog 26 #[.int .i64 a0, .int .i64 a1] w fun e w' => e = .returned (.string r) ∧ Below w.heap.size w w' := by
  unfold crc_Bits.f at h
  by_cases h1 : 0 ≤ a0
  · by_cases h2 : 0 ≤ a1
    · by_cases h3 : a1 ≤ 60
      · obtain ⟨n, rfl⟩ := Int.eq_ofNat_of_zero_le h1
        obtain ⟨W, rfl⟩ := Int.eq_ofNat_of_zero_le h2
        have e1 : decide ((n : Int) < 0) = false := decide_eq_false (by omega)
        have e2 : decide ((W : Int) < 0) = false := decide_eq_false (by omega)
        have e3 : decide (60 < (W : Int)) = false := decide_eq_false (by omega)
        have hW : W ≤ 60 := by omega
        simp [bitsOk, h2, h3] at h
        obtain ⟨hn, rfl⟩ := h
        have HN : Aside0 (n < 9223372036854775808) := ⟨by omega⟩
        clear h1 h2 h3 hn
        go_enter Try.func26, Try.ntmps26
        go_wp2
        go_loopw [5, 18] (fun v i wr => ∃ k : Nat, k ≤ W ∧ i = .int .i64 k ∧ Aside0 (wr.ownsRow w.heap.size 5 1 v k (nums .u8 ((bitsL n W).take k))) ∧ Below w.heap.size w wr) (fun _ i _ => W - (intOf i).toNat)
        case atStart => exact ⟨0, Nat.zero_le _, rfl, ⟨own_nil _ _ _ _⟩, Below.refl _ _⟩
        case round =>
          obtain ⟨k, hk, rfl, HO, hbw⟩ := hrel
          by_cases hlt : k < W
          · have hc0 : (0 : Int) ≤ (W : Int) - 1 - k := by omega
            have hc1 : (W : Int) - 1 - k ≤ 63 := by omega
            have hlen : ((bitsL n W).take k).length = k := by rw [List.length_take, bitsL_length]; omega
            go_wp2_with (at_builtin; refine print_append_num (w0 := w) w.heap.size rfl (.tmp 21) (.tmp 31) 29 5 .u8 1 rfl Try.underlying29 ginfo_u8 (by decide) u5 ((bitsL n W).take k) _ rfl rfl ?a1 ?a2 ?a3 ?a4 ?_)
            case a1 => rw [hlen]; exact HO.out
            case a2 => exact hbw
            case a3 => exact hbw.size
            case a4 => omega
            intro v1 w1 hown hb1 _ _
            have HO1 : Aside0 (w1.ownsRow w.heap.size 5 1 v1 (k + 1) (nums .u8 ((bitsL n W).take (k + 1)))) := ⟨by
              rw [bitsL_take n W k hlt, ← bitAt_eq n W k HN.out]
              exact hown⟩
            clear hown hlen
            go_wp2
            go_roundw
            case rel => exact ⟨k + 1, by omega, by go_num, HO1, hb1⟩
            case measure => simp [intOf]; omega
          · have HT : Aside0 (k = W) := ⟨by omega⟩
            have hcv := own_string (P := Try.prog) Try.underlying29 Try.underlying5 Try.underlying9 HO.out
            go_wp2
            go_ret
            refine ⟨?_, hbw⟩
            rw [HT.out, List.take_of_length_le (by rw [bitsL_length]; omega)]
            rfl
      · simp [bitsOk, h3] at h
        subst h
        have e1 : decide (a0 < 0) = false := decide_eq_false (by omega)
        have e2 : decide (a1 < 0) = false := decide_eq_false (by omega)
        have e3 : decide (60 < a1) = true := decide_eq_true (by omega)
        clear h1 h2 h3
        go_enter Try.func26, Try.ntmps26
        go_wp2
        go_ret
        exact ⟨rfl, Below.refl _ _⟩
    · simp [bitsOk, h2] at h
      subst h
      have e1 : decide (a0 < 0) = false := decide_eq_false (by omega)
      have e2 : decide (a1 < 0) = true := decide_eq_true (by omega)
      clear h1 h2
      go_enter Try.func26, Try.ntmps26
      go_wp2
      go_ret
      exact ⟨rfl, Below.refl _ _⟩
  · simp [bitsOk, h1] at h
    subst h
    have e1 : decide (a0 < 0) = true := decide_eq_true (by omega)
    clear h1
    go_enter Try.func26, Try.ntmps26
    go_wp2
    go_ret
    exact ⟨rfl, Below.refl _ _⟩
end Go.Proofs.Ythgnhhdblbiihaa.P
