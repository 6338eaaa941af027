/- crc.Number answers the number of at most 60 bits, or that there is none; no conditions. -/
import Derived.Test.YtbpjbnhhopohgaaGRight
import Derived.Test.YtbpjbnhhopohgaaGBits
namespace Go.Proofs.Ytbpjbnhhopohgaa.P
open Go.RowKit Go.Proofs.YtbpjbnhhopohgaaW.PrintWords Go.Proofs.YtbpjbnhhopohgaaW.PrintLast Go.Proofs.YtbpjbnhhopohgaaW.PrintMore
set_option linter.unusedVariables false
set_option linter.unusedSimpArgs false

def bitN (b : UInt8) : Nat := if b = 49 then 1 else 0
def bitsNum (l : List UInt8) : Nat := l.foldl (fun n b => 2 * n + bitN b) 0
def crc_Number.f (a0 : ByteArray) : Option (Int × Bool) := some (if bitsB a0 && decide (a0.size ≤ 60) then ((bitsNum a0.data.toList : Nat), true) else (0, false))
theorem bitsNum_snoc (l : List UInt8) (b : UInt8) : bitsNum (l ++ [b]) = 2 * bitsNum l + bitN b := by simp [bitsNum]
theorem bitN_lt (b : UInt8) : bitN b < 2 := by unfold bitN; split <;> omega
theorem bitsNum_lt (l : List UInt8) : bitsNum l < 2 ^ l.length := by
  suffices h : ∀ n : Nat, ∀ l : List UInt8, l.length = n → bitsNum l < 2 ^ l.length from h _ l rfl
  intro n
  induction n with
  | zero => intro l hl; obtain rfl := List.eq_nil_of_length_eq_zero hl; simp [bitsNum]
  | succ n ih =>
    intro l hl
    obtain ⟨l', b, rfl⟩ : ∃ l' b, l = l' ++ [b] := ⟨l.dropLast, l.getLast (by intro e; simp [e] at hl), (List.dropLast_concat_getLast _).symm⟩
    have := ih l' (by simpa using hl)
    rw [bitsNum_snoc, List.length_append, List.length_singleton, Nat.pow_succ]
    have := bitN_lt b
    omega
theorem take_snoc (s : ByteArray) (k : Nat) (h : k < s.size) : s.data.toList.take (k + 1) = s.data.toList.take k ++ [s[k]] := by
  rw [List.take_succ_eq_append_getElem (by simpa using h)]; rfl

set_option maxHeartbeats 1000000 in
set_option maxRecDepth 100000 in
theorem crc_Number.calls (a0 : ByteArray) (r1 : Int) (r2 : Bool) (w : World) (h : crc_Number.f a0 = some (r1, r2)) :
    Calls Try.prog 23 #[.string a0] w fun e w' => e = .returned (.tuple #[.int .i64 r1, .bool r2]) ∧ Below w.heap.size w w' := by
  have hR := stuff_Right.calls a0 (bitsB a0) w rfl
  unfold crc_Number.f at h
  cases hb : bitsB a0 with
  | false =>
    rw [hb] at h hR
    simp at h
    obtain ⟨rfl, rfl⟩ := h
    clear hb
    go_enter Try.func23, Try.ntmps23
    go_wp2_with (go_at_call 36; refine hR.mono ?_; rintro e w1 ⟨rfl, hb1⟩)
    go_ret2
    exact ⟨rfl, hb1⟩
  | true =>
    rw [hb] at h hR
    by_cases hs : a0.size ≤ 60
    · simp [hs] at h
      obtain ⟨rfl, rfl⟩ := h
      have HBB := Aside0.mk hb
      clear hb
      go_enter Try.func23, Try.ntmps23
      go_wp2_with (go_at_call 36; refine hR.mono ?_; rintro e w1 ⟨rfl, hb1⟩)
      have hz1 : w.heap.size ≤ w1.heap.size := hb1.size
      go_loopw [4] (fun v wr => ∃ pos : Nat, pos ≤ a0.size ∧ wr.heap[w1.heap.size]? = some (.stringIter a0 pos) ∧ Below w.heap.size w wr ∧ v = .int .i64 (bitsNum (a0.data.toList.take pos) : Nat)) (fun _ wr => a0.size - wr.iterPos w1.heap.size)
      case atStart => exact ⟨0, Nat.zero_le _, World.iter_heap w1 a0 0, hb1.alloc hz1 _, rfl⟩
      case round =>
        obtain ⟨pos, hps, hit, hbw, rfl⟩ := hrel
        have hsz : w1.heap.size < wr.heap.size := (Array.getElem?_eq_some_iff.1 hit).1
        by_cases hp : pos < a0.size
        · have hnx : ∀ ty, (Instr.next (.pointer (some ⟨w1.heap.size, 0, none⟩)) true ty).run Try.prog wr = _ := fun ty => Lib.run_next_any_at wr w1.heap.size a0 pos ty hit hp
          have hbw2 := Lib.below_iterAt hbw (k := w1.heap.size) hz1 a0 (pos + 1)
          rcases decode_bit a0 pos hp with ⟨h1, h2, h3, h4⟩ | ⟨h1, h2, h3⟩
          · rw [h3] at hnx
            have hit2 := Lib.iterAt_heap wr w1.heap.size a0 pos (pos + 1) hit
            have HT := Aside0.mk (take_snoc a0 pos hp)
            have hlt := bitsNum_lt (a0.data.toList.take pos)
            have hlt2 : bitsNum (a0.data.toList.take pos) < 576460752303423488 := by
              refine Nat.lt_of_lt_of_le hlt (Nat.le_trans (Nat.pow_le_pow_right (by omega) (?_ : _ ≤ 59)) (by decide))
              rw [List.length_take]; omega
            clear hlt
            have HB : Aside0 (bitN a0[pos] = (Utf8.decode a0 pos).1 - 48) := ⟨by
              rw [h4] at h1 ⊢
              unfold bitN
              split
              · rename_i e; rw [e]; rfl
              · rename_i e
                have : a0[pos].toNat ≠ 49 := fun e2 => e (UInt8.toNat_inj.1 e2)
                omega⟩
            clear h2 h3 h4
            obtain ⟨n, hn⟩ : ∃ n, n = bitsNum (a0.data.toList.take pos) := ⟨_, rfl⟩
            rw [← hn] at hlt2 ⊢
            have HN := Aside0.mk hn
            clear hn
            generalize (Utf8.decode a0 pos).1 = q at *
            rcases h1 with rfl | rfl
            · have hor := bits_or_bit0 n (by omega)
              go_wp2
              go_roundw
              case rel =>
                refine ⟨pos + 1, by omega, hit2, hbw2, ?_⟩
                rw [HT.out, bitsNum_snoc, HB.out, ← HN.out]
                simp
              case measure =>
                simp only [World.iterPos, hit2, hit]
                omega
            · have hor := bits_or_bit1 n (by omega)
              go_wp2
              go_roundw
              case rel =>
                refine ⟨pos + 1, by omega, hit2, hbw2, ?_⟩
                rw [HT.out, bitsNum_snoc, HB.out, ← HN.out]
                simp
              case measure =>
                simp only [World.iterPos, hit2, hit]
                omega
          · rw [bitsB_at HBB.out pos hp] at h3
            cases h3
        · have hnx : ∀ ty, (Instr.next (.pointer (some ⟨w1.heap.size, 0, none⟩)) true ty).run Try.prog wr = _ := fun ty => Lib.run_next_end_at wr w1.heap.size a0 pos ty hit hp
          have HT : Aside0 (a0.data.toList.take pos = a0.data.toList) := ⟨List.take_of_length_le (by simp; omega)⟩
          go_wp2
          go_ret2
          exact ⟨by rw [HT.out]; rfl, hbw⟩
    · simp [hs] at h
      obtain ⟨rfl, rfl⟩ := h
      clear hb
      go_enter Try.func23, Try.ntmps23
      go_wp2_with (go_at_call 36; refine hR.mono ?_; rintro e w1 ⟨rfl, hb1⟩)
      go_ret2
      exact ⟨rfl, hb1⟩
end Go.Proofs.Ytbpjbnhhopohgaa.P
