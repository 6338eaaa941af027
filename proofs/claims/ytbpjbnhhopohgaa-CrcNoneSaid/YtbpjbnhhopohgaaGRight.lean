/- stuff.Right answers true just if all bytes are the bits 48 and 49; no conditions. -/
import Derived.Test.YtbpjbnhhopohgaaP0
import Derived.Lib.OthersKept
namespace Go.Proofs.Ytbpjbnhhopohgaa.P
open Go.RowKit Go.Proofs.YtbpjbnhhopohgaaW.PrintWords Go.Proofs.YtbpjbnhhopohgaaW.PrintLast Go.Proofs.YtbpjbnhhopohgaaW.PrintMore
set_option linter.unusedVariables false
set_option linter.unusedSimpArgs false

def isBit (b : UInt8) : Bool := b == 48 || b == 49
def bitsB (s : ByteArray) : Bool := s.data.toList.all isBit
def stuff_Right.f (a0 : ByteArray) : Option Bool := some (bitsB a0)

theorem bitsB_at {s : ByteArray} (h : bitsB s = true) (i : Nat) (hi : i < s.size) : isBit s[i] = true := by
  unfold bitsB at h
  rw [List.all_eq_true] at h
  exact h _ (by simp [ByteArray.getElem_eq_getElem_data])
theorem bitsB_of {s : ByteArray} (h : ∀ i (hi : i < s.size), isBit s[i] = true) : bitsB s = true := by
  unfold bitsB
  rw [List.all_eq_true]
  intro b hb
  obtain ⟨i, hi, rfl⟩ := List.mem_iff_getElem.1 hb
  have := h i (by simpa using hi)
  simpa [ByteArray.getElem_eq_getElem_data] using this
theorem bitsB_not {s : ByteArray} (i : Nat) (hi : i < s.size) (h : isBit s[i] = false) : bitsB s = false := by
  cases hb : bitsB s with
  | false => rfl
  | true => rw [bitsB_at hb i hi] at h; cases h
/-- The rune at pos is a bit just if the byte is; it is one byte wide then. -/
theorem decode_bit (s : ByteArray) (pos : Nat) (h : pos < s.size) :
    (((Utf8.decode s pos).1 = 48 ∨ (Utf8.decode s pos).1 = 49) ∧ isBit s[pos] = true ∧ (Utf8.decode s pos).2 = 1 ∧ (Utf8.decode s pos).1 = s[pos].toNat) ∨
    ((Utf8.decode s pos).1 ≠ 48 ∧ (Utf8.decode s pos).1 ≠ 49 ∧ isBit s[pos] = false) := by
  by_cases ha : (s[pos]'h).toNat < 128
  · rw [decode_ascii s pos h ha]
    simp only [isBit, Bool.or_eq_true, beq_iff_eq, Bool.or_eq_false_iff, beq_eq_false_iff_ne, ne_eq, ← UInt8.toNat_inj]
    simp
    omega
  · have := decode_high s pos h (by omega)
    right
    simp only [isBit, Bool.or_eq_false_iff, beq_eq_false_iff_ne, ne_eq, ← UInt8.toNat_inj]
    simp
    omega

set_option maxHeartbeats 1000000 in
set_option maxRecDepth 100000 in
theorem stuff_Right.calls (a0 : ByteArray) (r : Bool) (w : World) (h : stuff_Right.f a0 = some r) :
    Calls Try.prog 36 #[.string a0] w fun e w' => e = .returned (.bool r) ∧ Below w.heap.size w w' := by
  obtain rfl := Option.some.inj h
  clear h
  go_enter Try.func36, Try.ntmps36
  go_wp2
  go_loopw [] (fun wr => ∃ pos : Nat, pos ≤ a0.size ∧ wr.heap[w.heap.size]? = some (.stringIter a0 pos) ∧ Below w.heap.size w wr ∧ ∀ i (hi : i < a0.size), i < pos → isBit a0[i] = true) (fun wr => a0.size - wr.iterPos w.heap.size)
  case atStart =>
    exact ⟨0, Nat.zero_le _, World.iter_heap w a0 0, (Below.refl _ w).alloc (Nat.le_refl _) _, fun i hi h0 => absurd h0 (by omega)⟩
  case round =>
    obtain ⟨pos, hps, hit, hbw, hall⟩ := hrel
    have hsz : w.heap.size < wr.heap.size := (Array.getElem?_eq_some_iff.1 hit).1
    have HALL := Aside0.mk hall
    clear hall
    by_cases hp : pos < a0.size
    · have hnx : ∀ ty, (Instr.next (.pointer (some ⟨w.heap.size, 0, none⟩)) true ty).run Try.prog wr = _ := fun ty => Lib.run_next_any_at wr w.heap.size a0 pos ty hit hp
      have hbw2 := Lib.below_iterAt hbw (k := w.heap.size) (by omega) a0 (pos + (Utf8.decode a0 pos).2)
      rcases decode_bit a0 pos hp with ⟨h1, h2, h3, h4⟩ | ⟨h1, h2, h3⟩
      · rw [h3] at hnx hbw2
        have hit2 := Lib.iterAt_heap wr w.heap.size a0 pos (pos + 1) hit
        have H2 := Aside0.mk h2
        have H4 := Aside0.mk h4
        clear h2 h3 h4
        generalize (Utf8.decode a0 pos).1 = q at *
        rcases h1 with rfl | rfl
        all_goals
          go_wp2
          go_roundw
          case rel =>
            refine ⟨pos + 1, by omega, hit2, hbw2, fun i hi hip => ?_⟩
            by_cases e : i = pos
            · subst e; exact H2.out
            · exact HALL.out i hi (by omega)
          case measure =>
            simp only [World.iterPos, hit2, hit]
            omega
      · have hF := Aside0.mk (bitsB_not pos hp h3)
        clear h3
        generalize (Utf8.decode a0 pos).1 = q at *
        generalize wr.iterAt w.heap.size a0 (pos + (Utf8.decode a0 pos).2) = w2 at *
        have b1 : ((q : Int) != 48) = true := by rw [bne_iff_ne]; omega
        have b2 : ((q : Int) != 49) = true := by rw [bne_iff_ne]; omega
        clear h1 h2
        go_wp2
        go_ret
        exact ⟨by rw [hF.out]; rfl, hbw2⟩
    · have hnx : ∀ ty, (Instr.next (.pointer (some ⟨w.heap.size, 0, none⟩)) true ty).run Try.prog wr = _ := fun ty => Lib.run_next_end_at wr w.heap.size a0 pos ty hit hp
      have hT := Aside0.mk (bitsB_of fun i hi => HALL.out i hi (by omega))
      go_wp2
      go_ret
      exact ⟨by rw [hT.out]; rfl, hbw⟩
end Go.Proofs.Ytbpjbnhhopohgaa.P
