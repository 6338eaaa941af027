/- The reference's division answers the check that crc.Sum answers; no conditions but that a text is no longer than 2^40 bytes. -/
import Derived.Test.YtbpjbnhhopohgaaGDiv
import Derived.LoopTactic
namespace Go.Proofs.Ytbpjbnhhopohgaa.P
open Go.RowKit Go.Proofs.YtbpjbnhhopohgaaW.PrintWords Go.Proofs.YtbpjbnhhopohgaaW.PrintLast Go.Proofs.YtbpjbnhhopohgaaW.PrintMore
set_option linter.unusedVariables false
set_option linter.unusedSimpArgs false

def signalboxref07_Sum.f (a0 : ByteArray) (a1 a2 : Int) : Option (Int × Bool) := if a0.size ≤ 1099511627776 then crc_Sum.f a0 a1 a2 else none

set_option maxHeartbeats 4000000 in
set_option maxRecDepth 100000 in
theorem ref07_sum_walk (s : ByteArray) (W P : Nat) (w : World) (hs : s.size ≤ 1099511627776) (hb : bitsB s = true) (hW : 1 ≤ W) (hW2 : W ≤ 30) (hP : P < 2 ^ W) :
    Calls Try.prog 17 #[.string s, .int .i64 W, .int .i64 P] w fun e w' => e = .returned (.tuple #[.int .i64 (crcN W P s.data.toList : Nat), .bool true]) ∧ Below w.heap.size w w' := by
  have HS := Aside0.mk (fun W' : World => signalboxref06_Right.calls (s.size + 1) s true W' (by rw [ref06_right_f s (by omega) _ (by omega), hb]))
  have hok : crcOk (W : Int) (P : Int) = true := by
    simp only [crcOk, Int.toNat_natCast, two_pow_int, Bool.and_eq_true, decide_eq_true_eq]
    omega
  have HK := Aside0.mk (fun W' : World => signalboxref07_Right.calls 32 (W : Int) (P : Int) true W' (by rw [ref07_right_f _ _ _ (by omega), hok]))
  have HB := Aside0.mk (fun W' : World => signalboxref07_Bits.calls 62 (P : Int) (W : Int) (strOfNums (bitsL P W)) W' (by
    have hp := pow_le_30 W hW2
    rw [ref07_bits_f _ _ _ (by omega) (by omega)]
    unfold crc_Bits.f
    rw [if_pos (by simp [bitsOk]; omega), if_pos (by omega)]
    rfl))
  clear hok
  have kb := fun W' => print_bytes (P := Try.prog) 9 60 5 Try.underlying9 Try.underlying60 Try.underlying5 s W'
  go_enter Try.func17, Try.ntmps17
  go_wp2_with (first | (go_at_call 28; refine (HS.out _).mono ?_; rintro e w1 ⟨rfl, hb1⟩) | (go_at_call 29; refine (HK.out _).mono ?_; rintro e w2 ⟨rfl, hb2⟩))
  have hz2 : w.heap.size ≤ w2.heap.size := Nat.le_trans hb1.below.size hb2.below.size
  have HB3 : Aside0 (Below w.heap.size w (Lib.bytesWorld w2 5 s)) := ⟨bytes_below (below_step hb1.below hb2.below) hz2 5 s⟩
  have HR3 : Aside0 (RowB (Lib.bytesWorld w2 5 s) w.heap.size w2.heap.size s.size (grownCap w2 s.size 0 5) (bytesOf s)) := ⟨RowB.of_bytes w2 5 s hz2 (by omega)⟩
  generalize Lib.bytesWorld w2 5 s = w3 at *
  generalize grownCap w2 s.size 0 5 = cap0 at *
  clear hb1 hb2
  go_loopw [8, 9] (fun v i wr => ∃ j g cap : Nat, j ≤ W ∧ i = .int .i64 j ∧ v = .slice (some ⟨g, 0, none⟩) (s.size + j) cap ∧ Aside0 (RowB wr w.heap.size g (s.size + j) cap (bytesOf s ++ List.replicate j 48)) ∧ Aside0 (Below w.heap.size w wr)) (fun _ i _ => W - (intOf i).toNat)
  case atStart => exact ⟨0, w2.heap.size, cap0, Nat.zero_le _, rfl, rfl, ⟨by simpa using HR3.out⟩, HB3⟩
  case round =>
    clear HR3 HB3
    obtain ⟨j, g, cap, hj, rfl, rfl, HR, HBw⟩ := hrel
    by_cases hlt : j < W
    · go_wp2_with (at_builtin; refine rowB_append (w0 := w) w.heap.size rfl (.tmp 31) (.tmp 32) 60 5 rfl Try.underlying60 info5 g (s.size + j) cap (bytesOf s ++ List.replicate j 48) 48 rfl rfl HR.out HBw.out ?a1 ?_)
      case a1 => omega
      intro g1 cap1 w1 hR1 hB1
      have HR1 : Aside0 (RowB w1 w.heap.size g1 (s.size + (j + 1)) cap1 (bytesOf s ++ List.replicate (j + 1) 48)) := ⟨by
        rw [List.replicate_succ']
        first | exact hR1 | (rw [List.append_assoc] at hR1; exact hR1)⟩
      have HB1 := Aside0.mk hB1
      clear hR1 hB1
      go_wp2
      go_roundw
      case rel => exact ⟨j + 1, g1, cap1, by omega, by go_num, rfl, HR1, HB1⟩
      case measure => simp [intOf]; omega
    · obtain rfl : W = j := by omega
      have hq : (strOfNums (bitsL P W)).size ≤ 100 := by rw [strOfNums_size, bitsL_length]; omega
      go_wp2_with (go_at_call 25; refine (HB.out _).mono ?_; rintro e w4 ⟨rfl, hb4⟩)
      rw [show (⟨#[49]⟩ : ByteArray) ++ strOfNums (bitsL P W) = byOf W P from rfl]
      have HR4 : Aside0 (RowB w4 w.heap.size g (s.size + W) cap (divL (byOf W P) W (bytesOf s ++ List.replicate W 48) 0)) := ⟨HR.out.below hb4⟩
      have HB4 : Aside0 (Below w.heap.size w w4) := ⟨below_step HBw.out hb4⟩
      have hqs := byOf_size W P
      have HQS := Aside0.mk hqs
      obtain ⟨q, hqe⟩ : ∃ q, q = byOf W P := ⟨_, rfl⟩
      rw [← hqe] at HQS HR4 ⊢
      have HQ := Aside0.mk hqe
      clear hqe hqs hq HR HBw hb4 HB HK HS kb
      go_loopw [11] (fun i wr => ∃ m : Nat, m ≤ s.size ∧ i = .int .i64 m ∧ Aside0 (RowB wr w.heap.size g (s.size + W) cap (divL q W (bytesOf s ++ List.replicate W 48) m)) ∧ Aside0 (Below w.heap.size w wr)) (fun i _ => s.size - (intOf i).toNat)
      case atStart => exact ⟨0, Nat.zero_le _, rfl, HR4, HB4⟩
      case round =>
        clear HR4 HB4
        obtain ⟨wo, hwo⟩ : ∃ wo : World, wo = wr := ⟨_, rfl⟩
        subst hwo
        obtain ⟨m, hm, rfl, HR, HBw⟩ := hrel
        by_cases hlt : m < s.size
        · obtain ⟨L, hL⟩ : ∃ L, L = divL q W (bytesOf s ++ List.replicate W 48) m := ⟨_, rfl⟩
          have HL := Aside0.mk hL
          rw [← hL] at HR
          clear hL
          have hc := HR.out.cell m (by omega)
          have HN : Aside0 (divL q W (bytesOf s ++ List.replicate W 48) (m + 1) = divK q W m L) := ⟨by rw [HL.out]; rfl⟩
          obtain ⟨x, hx⟩ : ∃ x, x = L.getD m 0 := ⟨_, rfl⟩
          rw [← hx] at hc
          by_cases hx49 : x = 49
          · have ht : (x == 49) = true := by rw [hx49]; rfl
            have HN2 : Aside0 (divK q W m L = flipL q m L (W + 1)) := ⟨by unfold divK; rw [if_pos (by rw [← hx]; exact hx49)]⟩
            clear hx hx49
            go_wp2
            go_loopw [12] (fun kk wr => ∃ k : Nat, k ≤ W + 1 ∧ kk = .int .i64 k ∧ Aside0 (RowB wr w.heap.size g (s.size + W) cap (flipL q m L k)) ∧ Aside0 (Below w.heap.size w wr)) (fun kk _ => W + 1 - (intOf kk).toNat)
            case atStart => exact ⟨0, Nat.zero_le _, rfl, ⟨HR.out⟩, HBw⟩
            case round =>
              clear HR HBw hc
              obtain ⟨k, hk, rfl, HR, HBw⟩ := hrel
              by_cases hlk : k ≤ W
              · have hkq : k < q.size := by rw [HQS.out]; omega
                have HF : Aside0 (flipL q m L (k + 1) = flipK q m k (flipL q m L k)) := ⟨rfl⟩
                have hc := HR.out.cell (m + k) (by omega)
                have hfz := (HR.out.free (m + k) (by have := HR.out.hcap; omega)).2
                obtain ⟨y, hy⟩ : ∃ y, y = (flipL q m L k).getD (m + k) 0 := ⟨_, rfl⟩
                rw [← hy] at hc
                have HY := Aside0.mk hy
                clear hy
                by_cases hb49 : bt q (k : Int) = 49
                · have ht2 : (((q[k]'hkq).toNat : Int) == 49) = true := by rw [← bt_nat q k hkq, hb49]; rfl
                  have HF2 : Aside0 (flipK q m k (flipL q m L k) = (flipL q m L k).set (m + k) ((97 - y) % 256)) := ⟨by unfold flipK; rw [if_pos hb49, HY.out]⟩
                  have HR2 : Aside0 (RowB (wr.setCell ⟨g, m + k, none⟩ (.int .u8 ((97 - y) % 256))) w.heap.size g (s.size + W) cap (flipL q m L (k + 1))) := ⟨by rw [HF.out, HF2.out]; exact HR.out.set (m + k) (by omega) _⟩
                  have HB2 : Aside0 (Below w.heap.size w (wr.setCell ⟨g, m + k, none⟩ (.int .u8 ((97 - y) % 256)))) := ⟨HBw.out.setCell HR.out.hle _⟩
                  clear hb49 HF HF2
                  go_wp2
                  go_roundw
                  case rel => exact ⟨k + 1, by omega, by go_num, HR2, HB2⟩
                  case measure => simp [intOf]; omega
                · have ht2 : (((q[k]'hkq).toNat : Int) == 49) = false := by rw [← bt_nat q k hkq]; simpa using hb49
                  have HF2 : Aside0 (flipK q m k (flipL q m L k) = flipL q m L k) := ⟨by unfold flipK; rw [if_neg hb49]⟩
                  clear hb49
                  go_wp2
                  go_roundw
                  case rel => exact ⟨k + 1, by omega, by go_num, ⟨by rw [HF.out, HF2.out]; exact HR.out⟩, HBw⟩
                  case measure => simp [intOf]; omega
              · obtain rfl : W + 1 = k := by omega
                go_wp2
                go_roundw
                case rel => exact ⟨m + 1, by omega, by go_num, ⟨by rw [HN.out, HN2.out]; exact HR.out⟩, HBw⟩
                case measure => simp [intOf]; omega
          · have ht : (x == 49) = false := by simpa using hx49
            have HN2 : Aside0 (divK q W m L = L) := ⟨by unfold divK; rw [if_neg (by rw [← hx]; exact hx49)]⟩
            clear hx hx49
            go_wp2
            go_roundw
            case rel => exact ⟨m + 1, by omega, by go_num, ⟨by rw [HN.out, HN2.out]; exact HR.out⟩, HBw⟩
            case measure => simp [intOf]; omega
        · obtain rfl : s.size = m := by omega
          have hcp := HR.out.hcap
          have HE : Aside0 ((divL q W (bytesOf s ++ List.replicate W 48) s.size).drop s.size = bitsL (crcN W P s.data.toList) W) := ⟨by rw [HQ.out]; exact div_end W P s hb hW hP⟩
          have hdr := HR.out.drop_reads s.size (by omega) (by omega)
          rw [HE.out, show s.size + W - s.size = W by omega] at hdr
          have hcv := string_of_reads (P := Try.prog) (c := cap - s.size) Try.underlying60 Try.underlying5 Try.underlying9 hdr
          have HNUM := Aside0.mk (fun W' : World => signalboxref07_Number.calls (W + 2) (strOfNums (bitsL (crcN W P s.data.toList) W)) (crcN W P s.data.toList : Nat) true W' (by
            have hl : (strOfNums (bitsL (crcN W P s.data.toList) W)).size = W := by rw [strOfNums_size, bitsL_length]
            rw [ref07_number_f _ (by omega) _ (by omega)]
            unfold crc_Number.f
            rw [bitsL_bits, bitsL_num, hl, Nat.mod_eq_of_lt (crcN_lt W P hP _)]
            simp
            omega))
          clear HE HQ hdr
          go_wp2_with (go_at_call 24; refine (HNUM.out _).mono ?_; rintro e w5 ⟨rfl, hb5⟩)
          go_ret2
          exact ⟨rfl, below_step HBw.out hb5.below⟩

set_option maxHeartbeats 1000000 in
set_option maxRecDepth 100000 in
theorem signalboxref07_Sum.calls (a0 : ByteArray) (a1 a2 : Int) (r1 : Int) (r2 : Bool) (w : World) (h : signalboxref07_Sum.f a0 a1 a2 = some (r1, r2)) :
    Calls Try.prog 17 #[.string a0, .int .i64 a1, .int .i64 a2] w fun e w' => e = .returned (.tuple #[.int .i64 r1, .bool r2]) ∧ Below w.heap.size w w' := by
  unfold signalboxref07_Sum.f at h
  by_cases hs : a0.size ≤ 1099511627776
  · rw [if_pos hs] at h
    unfold crc_Sum.f at h
    have HS := Aside0.mk (fun W' : World => signalboxref06_Right.calls (a0.size + 1) a0 (bitsB a0) W' (by rw [ref06_right_f a0 (by omega) _ (by omega)]))
    have HK := Aside0.mk (fun W' : World => signalboxref07_Right.calls 32 a1 a2 (crcOk a1 a2) W' (ref07_right_f _ _ _ (by omega)))
    cases hb : bitsB a0 with
    | false =>
      rw [hb] at h HS
      simp at h
      obtain ⟨rfl, rfl⟩ := h
      clear hb HK
      go_enter Try.func17, Try.ntmps17
      go_wp2_with (go_at_call 28; refine (HS.out _).mono ?_; rintro e w1 ⟨rfl, hb1⟩)
      go_ret2
      exact ⟨rfl, hb1.below⟩
    | true =>
      rw [hb] at h HS
      cases hk : crcOk a1 a2 with
      | false =>
        rw [hk] at h HK
        simp at h
        obtain ⟨rfl, rfl⟩ := h
        clear hb hk
        go_enter Try.func17, Try.ntmps17
        go_wp2_with (first | (go_at_call 28; refine (HS.out _).mono ?_; rintro e w1 ⟨rfl, hb1⟩) | (go_at_call 29; refine (HK.out _).mono ?_; rintro e w2 ⟨rfl, hb2⟩))
        go_ret2
        exact ⟨rfl, below_step hb1.below hb2.below⟩
      | true =>
        rw [hk] at h
        simp at h
        obtain ⟨rfl, rfl⟩ := h
        simp only [crcOk, Bool.and_eq_true, decide_eq_true_eq] at hk
        obtain ⟨⟨⟨h1, h2⟩, h3⟩, h4⟩ := hk
        obtain ⟨W, rfl⟩ := Int.eq_ofNat_of_zero_le (show 0 ≤ a1 by omega)
        obtain ⟨P, rfl⟩ := Int.eq_ofNat_of_zero_le h3
        rw [Int.toNat_natCast, two_pow_int] at h4
        exact ref07_sum_walk a0 W P w hs hb (by omega) (by omega) (by omega)
  · rw [if_neg hs] at h
    cases h
end Go.Proofs.Ytbpjbnhhopohgaa.P
