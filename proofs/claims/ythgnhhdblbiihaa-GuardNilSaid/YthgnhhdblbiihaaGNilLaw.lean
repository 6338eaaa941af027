/- GuardNil's walk. -/
import Derived.Test.YthgnhhdblbiihaaGGuardNil
import Derived.Test.YthgnhhdblbiihaaGGuardRef
namespace Go.Proofs.Ythgnhhdblbiihaa.P
open Go.RowKit Go.Proofs.YthgnhhdblbiihaaW.PrintWords Go.Proofs.YthgnhhdblbiihaaW.PrintLast Go.Proofs.YthgnhhdblbiihaaW.PrintMore
set_option linter.unusedVariables false
set_option linter.unusedSimpArgs false

theorem num_oct : ∀ c : Fin 256, bitsNum (oct c.val).data.toList = c.val := by decide +kernel
theorem number_oct (c : Nat) (h : c < 256) : crc_Number.f (oct c) = some ((c : Int), true) := by
  unfold crc_Number.f
  have hb : bitsB (oct c) = true := bits8_bitsB c []
  rw [hb, oct_size, num_oct ⟨c, h⟩]
  rfl
theorem word_facts (n : Int) : ∃ wt, guard_Word.f n = some wt ∧ (¬ (1 ≤ n ∧ n ≤ 5) → (wt.toList == ([] : List UInt8)) = true) ∧ (1 ≤ n ∧ n ≤ 5 → (wt.toList == ([] : List UInt8)) = false) := by
  unfold guard_Word.f
  by_cases h : 0 ≤ n ∧ n < 6
  · rw [if_pos h]
    refine ⟨_, rfl, ?_⟩
    obtain rfl | rfl | rfl | rfl | rfl | rfl : n = 0 ∨ n = 1 ∨ n = 2 ∨ n = 3 ∨ n = 4 ∨ n = 5 := by omega
    all_goals exact ⟨fun q => by first | decide +kernel | (exfalso; omega), fun q => by first | decide +kernel | (exfalso; omega)⟩
  · rw [if_neg h]
    exact ⟨_, rfl, fun _ => by decide +kernel, fun q => by omega⟩
set_option maxHeartbeats 8000000 in
set_option maxRecDepth 100000 in
theorem nil_law (s : ByteArray) (n : Int) (w : World) : Calls Try.prog 8 #[.string s, .int .i64 n] w fun e w' => e = .returned (.bool true) ∧ Below w.heap.size w w' := by
  have HA := Aside0.mk (alive40 0)
  by_cases h : s.size > 200
  · have t1 : decide ((s.size : Int) > 200) = true := decide_eq_true (by omega)
    clear h
    go_enter Try.func8, Try.ntmps8
    go_wp2_with fail
    refine (signalboxlaw40_alive.calls 10 true w HA.out).mono ?_
    rintro e w1 ⟨rfl, hb1⟩
    go_wp2_with fail
    go_ret
    exact ⟨rfl, hb1⟩
  · have t1 : decide ((s.size : Int) > 200) = false := decide_eq_false (by omega)
    have HC := Aside0.mk (show guard_Check.f 7 s = some (((chk 7 s : Nat) : Int), true) by rw [check_f 7 s (by omega)]; rfl)
    have hc := chk_lt 7 s
    obtain ⟨c, hcc⟩ : ∃ c, c = chk 7 s := ⟨_, rfl⟩
    rw [← hcc] at HC hc
    have HBi := Aside0.mk (crc_Bits_oct c (by omega))
    have HN := Aside0.mk (number_oct c hc)
    clear h hcc
    go_enter Try.func8, Try.ntmps8
    go_wp2_with fail
    refine (last_nil w).mono ?_
    rintro e w1 ⟨rfl, hb1⟩
    go_wp2_with fail
    refine (guard_Check.calls 7 s c true w1 HC.out).mono ?_
    rintro e w2 ⟨rfl, hb2⟩
    have B2 := Aside0.mk (hb1.trans (hb2.mono hb1.size))
    clear hb1 hb2
    go_wp2_with fail
    refine (crc_Bits.calls (c : Int) 8 (oct c) w2 HBi.out).mono ?_
    rintro e w3 ⟨rfl, hb3⟩
    have B3 := Aside0.mk (B2.out.trans (hb3.mono B2.out.size))
    clear hb3 B2
    go_wp2_with fail
    refine (crc_Number.calls (oct c) c true w3 HN.out).mono ?_
    rintro e w4 ⟨rfl, hb4⟩
    have B4 := Aside0.mk (B3.out.trans (hb4.mono B3.out.size))
    clear hb4 B3
    go_wp2_with fail
    refine (take_nil s w4).mono ?_
    rintro e w5 ⟨rfl, hb5⟩
    have B5 := Aside0.mk (B4.out.trans (hb5.mono B4.out.size))
    clear hb5 B4
    go_wp2_with fail
    refine (count_nil w5).mono ?_
    rintro e w6 ⟨rfl, hb6⟩
    have B6 := Aside0.mk (B5.out.trans (hb6.mono B5.out.size))
    clear hb6 B5
    obtain ⟨wt, hwt, hw0, hw1⟩ := word_facts n
    have HW := Aside0.mk hwt
    clear hwt
    go_wp2_with fail
    refine (guard_Word.calls n wt w6 HW.out).mono ?_
    rintro e w7 ⟨rfl, hb7⟩
    have B7 := Aside0.mk (B6.out.trans (hb7.mono B6.out.size))
    clear hb7 B6
    by_cases h1 : n ≥ 1
    · have u1 : decide (n ≥ 1) = true := decide_eq_true h1
      by_cases h5 : n ≤ 5
      · have u2 : decide (n ≤ 5) = true := decide_eq_true h5
        have v1 : (wt.toList == ([] : List UInt8)) = false := hw1 ⟨h1, h5⟩
        clear hw0 hw1 h1 h5
        go_wp2_with fail
        refine (signalboxlaw40_alive.calls 10 true w7 HA.out).mono ?_
        rintro e w8 ⟨rfl, hb8⟩
        go_wp2_with fail
        go_ret
        exact ⟨rfl, B7.out.trans (hb8.mono B7.out.size)⟩
      · have u2 : decide (n ≤ 5) = false := decide_eq_false h5
        have v1 : (wt.toList == ([] : List UInt8)) = true := hw0 (fun q => h5 q.2)
        clear hw0 hw1 h1 h5
        go_wp2_with fail
        refine (signalboxlaw40_alive.calls 10 true w7 HA.out).mono ?_
        rintro e w8 ⟨rfl, hb8⟩
        go_wp2_with fail
        go_ret
        exact ⟨rfl, B7.out.trans (hb8.mono B7.out.size)⟩
    · have u1 : decide (n ≥ 1) = false := decide_eq_false h1
      have v1 : (wt.toList == ([] : List UInt8)) = true := hw0 (fun q => h1 q.1)
      clear hw0 hw1 h1
      go_wp2_with fail
      refine (signalboxlaw40_alive.calls 10 true w7 HA.out).mono ?_
      rintro e w8 ⟨rfl, hb8⟩
      go_wp2_with fail
      go_ret
      exact ⟨rfl, B7.out.trans (hb8.mono B7.out.size)⟩
end Go.Proofs.Ythgnhhdblbiihaa.P
