/- FlowCarries' walk: what is carried, or that it is refused, is what the document reckons; no conditions. -/
import Derived.Test.YthgnhhdblbiihaaPEq57
import Derived.Test.YthgnhhdblbiihaaPsignalboxlaw36alive
import Derived.Test.YthgnhhdblbiihaaPsignalboxref36Trip
import Derived.Test.YthgnhhdblbiihaaGFlowCarry
namespace Go.Proofs.Ythgnhhdblbiihaa.P
open Go.RowKit Go.Proofs.YthgnhhdblbiihaaW.PrintWords Go.Proofs.YthgnhhdblbiihaaW.PrintLast Go.Proofs.YthgnhhdblbiihaaW.PrintMore
set_option linter.unusedVariables false
set_option linter.unusedSimpArgs false

theorem alive36k : signalboxlaw36_alive.f = some true := by decide +kernel
theorem clamp_le (x : Int) : 0 ≤ clampB x ∧ clampB x ≤ 255 := by
  unfold clampB mn mx
  repeat' split
  all_goals omega
theorem cut_clamp (x : Int) : signalboxref36_cut.f x = some (clampB x) := by
  unfold signalboxref36_cut.f clampB mn mx
  repeat' split
  all_goals first | rfl | (congr 1; omega) | (exfalso; omega)
theorem carry_trip (m : ByteArray) (room block gap : Int) (h5 : m.size ≤ 5000) (k : Nat) :
    signalboxref36_Trip.f (k + 1) (m.size : Int) room block gap = some (carryP m room block gap).2 := by
  unfold signalboxref36_Trip.f carryP
  by_cases h0 : m.size = 0
  · rw [if_pos (by omega), if_pos h0]
  rw [if_neg (by omega), if_neg h0]
  by_cases h1 : m.size > 4095
  · rw [if_pos (by omega), if_pos h1, signalboxref36_Trip.j0, if_pos rfl]
  rw [if_neg (by omega), if_neg h1]
  by_cases h2 : (m.size : Int) > room
  · rw [if_pos h2, decide_eq_true h2, signalboxref36_Trip.j0, if_pos rfl]
  rw [if_neg h2, decide_eq_false h2, signalboxref36_Trip.j0, if_neg (by decide)]
  by_cases h3 : m.size ≤ 7
  · rw [if_pos (by omega), if_pos h3]
  rw [if_neg (by omega), if_neg h3, cut_clamp, cut_clamp]
  simp only [Option.bind_some]
  have hb := clamp_le block
  have hq := clamp_le gap
  generalize clampB block = b at hb ⊢
  generalize clampB gap = q at hq ⊢
  have e1 : wrap64 (wrap64 ((m.size : Int) - 6) + 6) = m.size := by rw [w64_small ((m.size : Int) - 6) (by omega) (by omega), w64_small _ (by omega) (by omega)]; omega
  have hM : (nextMany m.size : Int) = (m.size : Int) / 7 := by unfold nextMany; omega
  have hM1 : 1 ≤ nextMany m.size ∧ nextMany m.size ≤ 600 := by unfold nextMany; omega
  have e2 : wrap64 (Int.tdiv (m.size : Int) 7) = (nextMany m.size : Int) := by
    rw [Int.tdiv_eq_ediv_of_nonneg (by omega), ← hM]
    exact w64_small _ (by omega) (by omega)
  rw [e1, e2]
  clear e1 e2 hM
  generalize nextMany m.size = M at hM1 ⊢
  have e3 : wrap64 (1 + (M : Int)) = 1 + (M : Int) := w64_small _ (by omega) (by omega)
  have ej : ((M - 1 : Nat) : Int) = (M : Int) - 1 := by omega
  rw [e3]
  by_cases hb0 : b > 0
  · rw [if_pos hb0, if_neg (by omega)]
    obtain ⟨g1, g2, g3, g4⟩ := stF_gap b q hb0 (M - 1)
    have e4 : wrap64 (wrap64 ((M : Int) + b) - 1) = ((M : Int) - 1) + b := by rw [w64_small ((M : Int) + b) (by omega) (by omega), w64_small _ (by omega) (by omega)]; omega
    have e5 : (((M : Int) - 1) + b) / b = ((M : Int) - 1) / b + 1 := by
      rw [Int.add_ediv_of_dvd_right (Int.dvd_refl b), Int.ediv_self (by omega)]
    have hd0 : 0 ≤ ((M : Int) - 1) / b := Int.ediv_nonneg (by omega) (by omega)
    have hd1 : ((M : Int) - 1) / b ≤ (M : Int) - 1 := Int.ediv_le_self _ (by omega)
    rw [e4, Int.tdiv_eq_ediv_of_nonneg (by omega), e5]
    rw [g2, g4, ej]
    generalize ((M : Int) - 1) / b = d at hd0 hd1 ⊢
    have e6 : wrap64 (d + 1) = 1 + d := by rw [w64_small _ (by omega) (by omega)]; omega
    have e7 : wrap64 ((M : Int) - (1 + d)) = (M : Int) - 1 - d := by rw [w64_small _ (by omega) (by omega)]; omega
    rw [e6, e7]
    have h0 : 0 ≤ q * ((M : Int) - 1 - d) := Int.mul_nonneg hq.1 (by omega)
    have h9 : q * ((M : Int) - 1 - d) ≤ 255 * 600 := Int.mul_le_mul hq.2 (by omega) (by omega) (by omega)
    rw [w64_small (q * ((M : Int) - 1 - d)) (by omega) (by omega)]
  · rw [if_neg hb0]
    obtain rfl : b = 0 := by omega
    obtain ⟨g1, g2, g3⟩ := stF_all q (M - 1)
    rw [g1, g2, ej]
    have e7 : wrap64 ((M : Int) - 1) = (M : Int) - 1 := w64_small _ (by omega) (by omega)
    rw [e7]
    have h0 : 0 ≤ q * ((M : Int) - 1) := Int.mul_nonneg hq.1 (by omega)
    have h9 : q * ((M : Int) - 1) ≤ 255 * 600 := Int.mul_le_mul hq.2 (by omega) (by omega) (by omega)
    rw [w64_small (q * ((M : Int) - 1)) (by omega) (by omega)]
theorem carry_ok (m : ByteArray) (room block gap : Int) : (carryP m room block gap).2.2.2.2 = 0 → (carryP m room block gap).1 = m := by
  unfold carryP
  by_cases h0 : m.size = 0
  · rw [if_pos h0]; intro h; cases h
  rw [if_neg h0]
  by_cases h1 : m.size > 4095
  · rw [if_pos h1]; intro h; cases h
  rw [if_neg h1]
  by_cases h2 : (m.size : Int) > room
  · rw [if_pos h2]; intro h; cases h
  rw [if_neg h2]
  by_cases h3 : m.size ≤ 7
  · rw [if_pos h3]; intro _; rfl
  · rw [if_neg h3]; intro _; rfl
theorem carry_no (m : ByteArray) (room block gap : Int) : (carryP m room block gap).2.2.2.2 ≠ 0 → (carryP m room block gap).1 = ⟨#[]⟩ ∧ (carryP m room block gap).2.1 = 0 ∧ (carryP m room block gap).2.2.1 = 0 ∧ (carryP m room block gap).2.2.2.1 = 0 := by
  unfold carryP
  by_cases h0 : m.size = 0
  · rw [if_pos h0]; intro h; exact ⟨rfl, rfl, rfl, rfl⟩
  rw [if_neg h0]
  by_cases h1 : m.size > 4095
  · rw [if_pos h1]; intro h; exact ⟨rfl, rfl, rfl, rfl⟩
  rw [if_neg h1]
  by_cases h2 : (m.size : Int) > room
  · rw [if_pos h2]; intro h; exact ⟨rfl, rfl, rfl, rfl⟩
  rw [if_neg h2]
  by_cases h3 : m.size ≤ 7
  · rw [if_pos h3]; intro h; exact absurd rfl h
  · rw [if_neg h3]; intro h; exact absurd rfl h

attribute [local go_sem high] eqA57
set_option maxHeartbeats 8000000 in
set_option maxRecDepth 100000 in
theorem carries_law (m : ByteArray) (room block gap : Int) (w : World) : Calls Try.prog 9 #[.string m, .int .i64 room, .int .i64 block, .int .i64 gap] w fun e w' => e = .returned (.bool true) ∧ Below w.heap.size w w' := by
  have hut := Try.underlying57
  have HA := Aside0.mk alive36k
  by_cases h : m.size > 5000
  · have t1 : decide ((m.size : Int) > 5000) = true := decide_eq_true (by omega)
    clear h
    go_enter Try.func9, Try.ntmps9
    go_wp2_with fail
    refine (signalboxlaw36_alive.calls true w HA.out).mono ?_
    rintro e w1 ⟨rfl, hb1⟩
    go_wp2_with fail
    go_ret
    exact ⟨rfl, hb1⟩
  · have t1 : decide ((m.size : Int) > 5000) = false := decide_eq_false (by omega)
    have HT := Aside0.mk (carry_trip m room block gap (by omega) 0)
    have HC := Aside0.mk (show flow_Carry.f m room block gap = some (carryP m room block gap) from rfl)
    have h1 := carry_ok m room block gap
    have h2 := carry_no m room block gap
    generalize carryP m room block gap = R at *
    obtain ⟨r1, r2, r3, r4, r5⟩ := R
    by_cases h5 : r5 = 0
    · subst h5
      obtain rfl : r1 = m := h1 rfl
      clear h h1 h2
      go_enter Try.func9, Try.ntmps9
      go_wp2_with fail
      refine (flow_Carry.calls r1 room block gap r1 r2 r3 r4 0 w HC.out).mono ?_
      rintro e w1 ⟨rfl, hb1⟩
      have HB := Aside0.mk hb1
      clear hb1
      go_wp2_with fail
      refine (signalboxref36_Trip.calls 1 (r1.size : Int) room block gap r2 r3 r4 0 _ HT.out).mono ?_
      rintro e w2 ⟨rfl, hb2⟩
      obtain ⟨⟨nd, rfl⟩⟩ := hb2
      go_wp2_with fail
      refine (signalboxlaw36_alive.calls true _ HA.out).mono ?_
      rintro e w3 ⟨rfl, hb3⟩
      go_wp2_with fail
      go_ret
      exact ⟨rfl, below_step (by repeat (first | (with_reducible first | exact HB.out | apply below_alloc | apply pw_below_drewN | apply below_drew1) | exact HB.out)) hb3⟩
    · obtain ⟨rfl, rfl, rfl, rfl⟩ := h2 h5
      have e5 : (r5 != 0) = true := bne_iff_ne.mpr h5
      clear h h1 h2 h5
      go_enter Try.func9, Try.ntmps9
      go_wp2_with fail
      refine (flow_Carry.calls m room block gap ⟨#[]⟩ 0 0 0 r5 w HC.out).mono ?_
      rintro e w1 ⟨rfl, hb1⟩
      have HB := Aside0.mk hb1
      clear hb1
      go_wp2_with fail
      refine (signalboxref36_Trip.calls 1 (m.size : Int) room block gap 0 0 0 r5 _ HT.out).mono ?_
      rintro e w2 ⟨rfl, hb2⟩
      obtain ⟨⟨nd, rfl⟩⟩ := hb2
      go_wp2_with fail
      refine (signalboxlaw36_alive.calls true _ HA.out).mono ?_
      rintro e w3 ⟨rfl, hb3⟩
      go_wp2_with fail
      go_ret
      exact ⟨rfl, below_step (by repeat (first | (with_reducible first | exact HB.out | apply below_alloc | apply pw_below_drewN | apply below_drew1) | exact HB.out)) hb3⟩
end Go.Proofs.Ythgnhhdblbiihaa.P
