/- crc.Bits answers a number's lowest bits, highest first, or the empty text; no conditions. -/
import Derived.Test.YtbpjbnhhopohgaaGBits
import Derived.LoopTactic
namespace Go.Proofs.Ytbpjbnhhopohgaa.P
open Go.RowKit Go.Proofs.YtbpjbnhhopohgaaW.PrintWords Go.Proofs.YtbpjbnhhopohgaaW.PrintLast Go.Proofs.YtbpjbnhhopohgaaW.PrintMore
set_option linter.unusedVariables false
set_option linter.unusedSimpArgs false

def bitAt (n W i : Nat) : Int := 48 + ((n / 2 ^ (W - 1 - i)) % 2 : Nat)
def bitsL (n W : Nat) : List Int := (List.range W).map (bitAt n W)
def bitsOk (a0 a1 : Int) : Bool := decide (0 ≤ a0) && decide (0 ≤ a1) && decide (a1 ≤ 60)
def crc_Bits.f (a0 a1 : Int) : Option ByteArray := if bitsOk a0 a1 then (if a0 < 9223372036854775808 then some (strOfNums (bitsL a0.toNat a1.toNat)) else none) else some ⟨#[]⟩

theorem bitsL_length (n W : Nat) : (bitsL n W).length = W := by simp [bitsL]
theorem bitsL_take (n W k : Nat) (h : k < W) : (bitsL n W).take (k + 1) = (bitsL n W).take k ++ [bitAt n W k] := by
  rw [List.take_succ_eq_append_getElem (by rw [bitsL_length]; exact h)]
  simp [bitsL]

theorem bitAt_eq (n W k : Nat) (hn : n < 9223372036854775808) : (48 + bits .and .i64 ((n : Int) / 2 ^ (W - 1 - k)) 1) % 256 = bitAt n W k := by
  have e : (n : Int) / 2 ^ (W - 1 - k) = ((n / 2 ^ (W - 1 - k) : Nat) : Int) := by push_cast; rfl
  have hq : n / 2 ^ (W - 1 - k) < 9223372036854775808 := Nat.lt_of_le_of_lt (Nat.div_le_self _ _) hn
  rw [e, bits_and_one _ hq, bitAt]
  generalize n / 2 ^ (W - 1 - k) = q
  omega

set_option maxHeartbeats 1000000 in
set_option maxRecDepth 100000 in
theorem crc_Bits.calls (a0 a1 : Int) (r : ByteArray) (w : World) (h : crc_Bits.f a0 a1 = some r) :
    Calls Try.prog 19 #[.int .i64 a0, .int .i64 a1] w fun e w' => e = .returned (.string r) ∧ Below w.heap.size w w' := by
  unfold crc_Bits.f at h
  by_cases h1 : 0 ≤ a0
  · by_cases h2 : 0 ≤ a1
    · by_cases h3 : a1 ≤ 60
      · obtain ⟨n, rfl⟩ := Int.eq_ofNat_of_zero_le h1
        obtain ⟨W, rfl⟩ := Int.eq_ofNat_of_zero_le h2
        have e1 : decide ((n : Int) < 0) = false := decide_eq_false (by omega)
        have e2 : decide ((W : Int) < 0) = false := decide_eq_false (by omega)
        have e3 : decide (60 < (W : Int)) = false := decide_eq_false (by omega)
        have hW : W ≤ 60 := by omega
        simp [bitsOk, h2, h3] at h
        obtain ⟨hn, rfl⟩ := h
        have HN : Aside0 (n < 9223372036854775808) := ⟨by omega⟩
        clear h1 h2 h3 hn
        go_enter Try.func19, Try.ntmps19
        go_wp2
        go_loopw [5, 18] (fun v i wr => ∃ k : Nat, k ≤ W ∧ i = .int .i64 k ∧ Aside0 (wr.ownsRow w.heap.size 5 1 v k (nums .u8 ((bitsL n W).take k))) ∧ Below w.heap.size w wr) (fun _ i _ => W - (intOf i).toNat)
        case atStart => exact ⟨0, Nat.zero_le _, rfl, ⟨own_nil _ _ _ _⟩, Below.refl _ _⟩
        case round =>
          obtain ⟨k, hk, rfl, HO, hbw⟩ := hrel
          by_cases hlt : k < W
          · have hc0 : (0 : Int) ≤ (W : Int) - 1 - k := by omega
            have hc1 : (W : Int) - 1 - k ≤ 63 := by omega
            have hlen : ((bitsL n W).take k).length = k := by rw [List.length_take, bitsL_length]; omega
            go_wp2_with (at_builtin; refine print_append_num (w0 := w) w.heap.size rfl (.tmp 21) (.tmp 31) 60 5 .u8 1 rfl Try.underlying60 info5 (by decide) u5 ((bitsL n W).take k) _ rfl rfl ?a1 ?a2 ?a3 ?a4 ?_)
            case a1 => rw [hlen]; exact HO.out
            case a2 => exact hbw
            case a3 => exact hbw.size
            case a4 => omega
            intro v1 w1 hown hb1 _ _
            have HO1 : Aside0 (w1.ownsRow w.heap.size 5 1 v1 (k + 1) (nums .u8 ((bitsL n W).take (k + 1)))) := ⟨by
              rw [bitsL_take n W k hlt, ← bitAt_eq n W k HN.out]
              exact hown⟩
            clear hown hlen
            go_wp2
            go_roundw
            case rel => exact ⟨k + 1, by omega, by go_num, HO1, hb1⟩
            case measure => simp [intOf]; omega
          · have HT : Aside0 (k = W) := ⟨by omega⟩
            have hcv := own_string (P := Try.prog) Try.underlying60 Try.underlying5 Try.underlying9 HO.out
            go_wp2
            go_ret
            refine ⟨?_, hbw⟩
            rw [HT.out, List.take_of_length_le (by rw [bitsL_length]; omega)]
            rfl
      · simp [bitsOk, h3] at h
        subst h
        have e1 : decide (a0 < 0) = false := decide_eq_false (by omega)
        have e2 : decide (a1 < 0) = false := decide_eq_false (by omega)
        have e3 : decide (60 < a1) = true := decide_eq_true (by omega)
        clear h1 h2 h3
        go_enter Try.func19, Try.ntmps19
        go_wp2
        go_ret
        exact ⟨rfl, Below.refl _ _⟩
    · simp [bitsOk, h2] at h
      subst h
      have e1 : decide (a0 < 0) = false := decide_eq_false (by omega)
      have e2 : decide (a1 < 0) = true := decide_eq_true (by omega)
      clear h1 h2
      go_enter Try.func19, Try.ntmps19
      go_wp2
      go_ret
      exact ⟨rfl, Below.refl _ _⟩
  · simp [bitsOk, h1] at h
    subst h
    have e1 : decide (a0 < 0) = true := decide_eq_true (by omega)
    clear h1
    go_enter Try.func19, Try.ntmps19
    go_wp2
    go_ret
    exact ⟨rfl, Below.refl _ _⟩
end Go.Proofs.Ytbpjbnhhopohgaa.P
