/- Printed for this claim by a program of the session (wip/gp.py, which drives the kit's printer): a Go function as a plain Lean function, and that its call answers it, wherever that function answers; no other conditions. -/
import Derived.Test.YthgnhhdblbiihaaP0
import Derived.Test.YthgnhhdblbiihaaPsignalboxref36cut
namespace Go.Proofs.Ythgnhhdblbiihaa.P
open Go.RowKit Go.Proofs.YthgnhhdblbiihaaW.PrintWords Go.Proofs.YthgnhhdblbiihaaW.PrintLast Go.Proofs.YthgnhhdblbiihaaW.PrintMore
attribute [local go_sem] max2_int min2_int max_two min_two max_three min_three max_four min_four   -- for this text's walks alone
set_option linter.unusedVariables false
set_option linter.unusedSimpArgs false

/-! ### signalboxref36_Trip: function 30 -/
def signalboxref36_Trip.j0 : Nat → Int → Int → Int → Bool → Option (Int × Int × Int × Int)
  | 0, _, _, _, _ => none
  | k + 1, x0, x2, x3, x23 => if x23 = true then (some (0, 0, 0, 9)) else (if x0 < 8 then (some (1, 0, 0, 0)) else ((signalboxref36_cut.f x2).bind fun t336 => (if t336 > 0 then (if t336 = 0 then (none) else ((signalboxref36_cut.f x3).bind fun t337 => (some (wrap64 (1 + (wrap64 (Int.tdiv (wrap64 ((wrap64 (x0 - 6)) + 6)) 7))), wrap64 (Int.tdiv (wrap64 ((wrap64 ((wrap64 (Int.tdiv (wrap64 ((wrap64 (x0 - 6)) + 6)) 7)) + t336)) - 1)) t336), wrap64 (t337 * (wrap64 ((wrap64 (Int.tdiv (wrap64 ((wrap64 (x0 - 6)) + 6)) 7)) - (wrap64 (Int.tdiv (wrap64 ((wrap64 ((wrap64 (Int.tdiv (wrap64 ((wrap64 (x0 - 6)) + 6)) 7)) + t336)) - 1)) t336))))), 0)))) else ((signalboxref36_cut.f x3).bind fun t338 => (some (wrap64 (1 + (wrap64 (Int.tdiv (wrap64 ((wrap64 (x0 - 6)) + 6)) 7))), 1, wrap64 (t338 * (wrap64 ((wrap64 (Int.tdiv (wrap64 ((wrap64 (x0 - 6)) + 6)) 7)) - 1))), 0))))))
def signalboxref36_Trip.f (k : Nat) (a0 : Int) (a1 : Int) (a2 : Int) (a3 : Int) : Option (Int × Int × Int × Int) := if a0 = 0 then (some (0, 0, 0, 2)) else (if a0 > 4095 then (signalboxref36_Trip.j0 k a0 a2 a3 true) else (signalboxref36_Trip.j0 k a0 a2 a3 (decide (a0 > a1))))
theorem signalboxref36_Trip.mono_l : ∀ k, (∀ y0 y1 y2 y3, LeO (signalboxref36_Trip.j0 k y0 y1 y2 y3) (signalboxref36_Trip.j0 (k + 1) y0 y1 y2 y3))
  | 0 => fun _ _ _ _ r h => by simp [signalboxref36_Trip.j0] at h
  | k + 1 => by
    have ih0 := signalboxref36_Trip.mono_l k
    · intro y0 y1 y2 y3
      unfold signalboxref36_Trip.j0
      repeat' first
      | (with_reducible exact ih0 _ _ _ _)
      | (with_reducible exact LeO.refl _)
      | (with_reducible exact LeO.none _)
      | (with_reducible refine LeO.ite ?_ ?_)
      | (with_reducible refine LeO.bind ?_ (fun _ => ?_))
      | exact ih0 _ _ _ _
      | exact LeO.none _
      | refine LeO.ite ?_ ?_
      | refine LeO.bind ?_ (fun _ => ?_)
theorem signalboxref36_Trip.mono : ∀ a0 a1 a2 a3 k, LeO (signalboxref36_Trip.f k a0 a1 a2 a3) (signalboxref36_Trip.f (k + 1) a0 a1 a2 a3) := by
  intro a0 a1 a2 a3 k
  have ih0 := signalboxref36_Trip.mono_l k
  unfold signalboxref36_Trip.f
  repeat' first
      | (with_reducible exact ih0 _ _ _ _)
      | (with_reducible exact LeO.refl _)
      | (with_reducible exact LeO.none _)
      | (with_reducible refine LeO.ite ?_ ?_)
      | (with_reducible refine LeO.bind ?_ (fun _ => ?_))
      | exact ih0 _ _ _ _
      | exact LeO.none _
      | refine LeO.ite ?_ ?_
      | refine LeO.bind ?_ (fun _ => ?_)
set_option maxHeartbeats 8000000 in
set_option maxRecDepth 100000 in
theorem signalboxref36_Trip.calls (k : Nat) (a0 : Int) (a1 : Int) (a2 : Int) (a3 : Int) (r1 : Int) (r2 : Int) (r3 : Int) (r4 : Int) (w : World) (h : signalboxref36_Trip.f k a0 a1 a2 a3 = some (r1, r2, r3, r4)) :
    Calls Try.prog 30 #[.int .i64 a0, .int .i64 a1, .int .i64 a2, .int .i64 a3] w fun e w' => e = .returned (.tuple #[.int .i64 r1, .int .i64 r2, .int .i64 r3, .int .i64 r4]) ∧ Drawn0 w w' := by
  have H : (if a0 = 0 then (some (0, 0, 0, 2)) else (if a0 > 4095 then (signalboxref36_Trip.j0 k a0 a2 a3 true) else (signalboxref36_Trip.j0 k a0 a2 a3 (decide (a0 > a1))))) = some (r1, r2, r3, r4) := h
  clear h
  by_cases c5 : a0 = 0
  · rw [if_pos c5] at H
    have c5b0 : (a0 == 0) = true := beq_iff_eq.mpr c5
    have c5b1 : (a0 != 0) = false := bne_eq_false_iff_eq.mpr c5
    clear c5
    simp only [Option.some.injEq, Prod.mk.injEq] at H
    obtain ⟨rfl, rfl, rfl, rfl⟩ := H
    go_enter Try.func30, Try.ntmps30
    go_wp2
    refine bodyPost_ret (results_list (rs := [.tmp 8, .tmp 9, .tmp 10, .tmp 11]) rfl (by simp) (.tmp (.tmp (.tmp (.tmp .nil))))) rfl ?_
    exact ⟨by first | rfl | (simp; done) | (simp [*]; done), by repeat (first | exact Drawn0.refl _ | apply Drawn0.step)⟩
  · rw [if_neg c5] at H
    have c5b0 : (a0 == 0) = false := beq_eq_false_iff_ne.mpr c5
    have c5b1 : (a0 != 0) = true := bne_iff_ne.mpr c5
    have HC6 := Aside0.mk H
    clear H
    go_enter Try.func30, Try.ntmps30
    go_upto_region 3 with (fail)
    go_cut [23] (fun v23 wc => ∃ (kq : Nat) (x23_5 : Bool), v23 = .bool x23_5 ∧ Aside0 (signalboxref36_Trip.j0 kq a0 a2 a3 x23_5 = some (r1, r2, r3, r4)) ∧ Aside0 (kq ≤ k) ∧ Drawn0 w wc)
    case first =>
      have H := HC6.out
      clear HC6
      by_cases c7 : a0 > 4095
      · rw [if_pos c7] at H
        have c7b0 : decide (4095 < a0) = true := decide_eq_true c7
        clear c7
        (first | rw [c7b0] | (simp only [i64_w, i32_w]; rw [c7b0]) | skip)
        have H' := Aside0.mk H
        clear H
        go_wp2
        go_meet
        case rel => exact ⟨_, (true), (by first | rfl | (simp; done) | (simp [*]; done)), H', ⟨by first | omega | exact Nat.le_refl _⟩, by repeat (first | exact Drawn0.refl _ | apply Drawn0.step)⟩
      · rw [if_neg c7] at H
        have c7b0 : decide (4095 < a0) = false := decide_eq_false c7
        clear c7
        (first | rw [c7b0] | (simp only [i64_w, i32_w]; rw [c7b0]) | skip)
        have H' := Aside0.mk H
        clear H
        go_wp2
        go_meet
        case rel => exact ⟨_, (decide (a0 > a1)), (by first | rfl | (simp; done) | (simp [*]; done)), H', ⟨by first | omega | exact Nat.le_refl _⟩, by repeat (first | exact Drawn0.refl _ | apply Drawn0.step)⟩
    case rest =>
      clear HC6
      try clear p2
      try clear c3
      try clear c5
      try clear c5b0
      try clear c5b1
      try clear c7
      try clear c7b0
      obtain ⟨kq, x23_5, rfl, HA, HJ5, ⟨mc5, rfl⟩⟩ := hcut
      cases kq with
      | zero => exact absurd HA.out (by simp [signalboxref36_Trip.j0])
      | succ kj5 =>
        have H := HA.out
        clear HA
        simp only [signalboxref36_Trip.j0] at H
        by_cases c8 : x23_5 = true
        · subst c8
          have H1 : (some (0, 0, 0, 9)) = some (r1, r2, r3, r4) := by rw [if_pos rfl] at H; exact H
          clear H
          have H := H1
          clear H1
          simp only [Option.some.injEq, Prod.mk.injEq] at H
          obtain ⟨rfl, rfl, rfl, rfl⟩ := H
          go_wp2
          refine bodyPost_ret (results_list (rs := [.tmp 8, .tmp 9, .tmp 10, .tmp 11]) rfl (by simp) (.tmp (.tmp (.tmp (.tmp .nil))))) rfl ?_
          exact ⟨by first | rfl | (simp; done) | (simp [*]; done), by repeat (first | exact Drawn0.refl _ | apply Drawn0.step)⟩
        · replace c8 := Bool.eq_false_iff.mpr c8
          subst c8
          have H1 : (if a0 < 8 then (some (1, 0, 0, 0)) else ((signalboxref36_cut.f a2).bind fun t336 => (if t336 > 0 then (if t336 = 0 then (none) else ((signalboxref36_cut.f a3).bind fun t337 => (some (wrap64 (1 + (wrap64 (Int.tdiv (wrap64 ((wrap64 (a0 - 6)) + 6)) 7))), wrap64 (Int.tdiv (wrap64 ((wrap64 ((wrap64 (Int.tdiv (wrap64 ((wrap64 (a0 - 6)) + 6)) 7)) + t336)) - 1)) t336), wrap64 (t337 * (wrap64 ((wrap64 (Int.tdiv (wrap64 ((wrap64 (a0 - 6)) + 6)) 7)) - (wrap64 (Int.tdiv (wrap64 ((wrap64 ((wrap64 (Int.tdiv (wrap64 ((wrap64 (a0 - 6)) + 6)) 7)) + t336)) - 1)) t336))))), 0)))) else ((signalboxref36_cut.f a3).bind fun t338 => (some (wrap64 (1 + (wrap64 (Int.tdiv (wrap64 ((wrap64 (a0 - 6)) + 6)) 7))), 1, wrap64 (t338 * (wrap64 ((wrap64 (Int.tdiv (wrap64 ((wrap64 (a0 - 6)) + 6)) 7)) - 1))), 0)))))) = some (r1, r2, r3, r4) := by rw [if_neg (show ¬ (false = true) by decide)] at H; exact H
          clear H
          have H := H1
          clear H1
          by_cases c9 : a0 < 8
          · rw [if_pos c9] at H
            have c9b0 : decide (a0 < 8) = true := decide_eq_true c9
            clear c9
            simp only [Option.some.injEq, Prod.mk.injEq] at H
            obtain ⟨rfl, rfl, rfl, rfl⟩ := H
            go_wp2
            refine bodyPost_ret (results_list (rs := [.tmp 8, .tmp 9, .tmp 10, .tmp 11]) rfl (by simp) (.tmp (.tmp (.tmp (.tmp .nil))))) rfl ?_
            exact ⟨by first | rfl | (simp; done) | (simp [*]; done), by repeat (first | exact Drawn0.refl _ | apply Drawn0.step)⟩
          · rw [if_neg c9] at H
            have c9b0 : decide (a0 < 8) = false := decide_eq_false c9
            clear c9
            replace H := Option.bind_eq_some_iff.mp H
            obtain ⟨t336, A100, H⟩ := H
            replace H : (if t336 > 0 then (if t336 = 0 then (none) else ((signalboxref36_cut.f a3).bind fun t337 => (some (wrap64 (1 + (wrap64 (Int.tdiv (wrap64 ((wrap64 (a0 - 6)) + 6)) 7))), wrap64 (Int.tdiv (wrap64 ((wrap64 ((wrap64 (Int.tdiv (wrap64 ((wrap64 (a0 - 6)) + 6)) 7)) + t336)) - 1)) t336), wrap64 (t337 * (wrap64 ((wrap64 (Int.tdiv (wrap64 ((wrap64 (a0 - 6)) + 6)) 7)) - (wrap64 (Int.tdiv (wrap64 ((wrap64 ((wrap64 (Int.tdiv (wrap64 ((wrap64 (a0 - 6)) + 6)) 7)) + t336)) - 1)) t336))))), 0)))) else ((signalboxref36_cut.f a3).bind fun t338 => (some (wrap64 (1 + (wrap64 (Int.tdiv (wrap64 ((wrap64 (a0 - 6)) + 6)) 7))), 1, wrap64 (t338 * (wrap64 ((wrap64 (Int.tdiv (wrap64 ((wrap64 (a0 - 6)) + 6)) 7)) - 1))), 0)))) = some (r1, r2, r3, r4) := H
            have A10 := Aside0.mk A100
            clear A100
            by_cases c11 : t336 > 0
            · rw [if_pos c11] at H
              have c11b0 : decide (0 < t336) = true := decide_eq_true c11
              clear c11
              by_cases c12 : t336 = 0
              · rw [if_pos c12] at H
                exact absurd H (by simp)
              · rw [if_neg c12] at H
                have c12b0 : (t336 == 0) = false := beq_eq_false_iff_ne.mpr c12
                have c12b1 : (t336 != 0) = true := bne_iff_ne.mpr c12
                replace H := Option.bind_eq_some_iff.mp H
                obtain ⟨t337, A130, H⟩ := H
                replace H : (some (wrap64 (1 + (wrap64 (Int.tdiv (wrap64 ((wrap64 (a0 - 6)) + 6)) 7))), wrap64 (Int.tdiv (wrap64 ((wrap64 ((wrap64 (Int.tdiv (wrap64 ((wrap64 (a0 - 6)) + 6)) 7)) + t336)) - 1)) t336), wrap64 (t337 * (wrap64 ((wrap64 (Int.tdiv (wrap64 ((wrap64 (a0 - 6)) + 6)) 7)) - (wrap64 (Int.tdiv (wrap64 ((wrap64 ((wrap64 (Int.tdiv (wrap64 ((wrap64 (a0 - 6)) + 6)) 7)) + t336)) - 1)) t336))))), 0)) = some (r1, r2, r3, r4) := H
                have A13 := Aside0.mk A130
                clear A130
                simp only [Option.some.injEq, Prod.mk.injEq] at H
                obtain ⟨rfl, rfl, rfl, rfl⟩ := H
                go_wp2_with (first | ((with_reducible refine gate_callee (f := 48) rfl ?_); refine goesL_ (some 31) rfl rfl Try.func48 (by kernel_rfl) rfl #[.int .i64 a2] rfl (by (try simp only [List.map_toArray, List.map_cons, List.map_nil]); first | done | rfl | (simp only [List.length_drop, List.length_take]; rfl)) ?_; (with_reducible refine (signalboxref36_cut.calls a2 t336 _ A10.out).mono ?_); rintro e w' ⟨rfl, ⟨nd, rfl⟩⟩; refine ⟨_, rfl, ?_⟩) | ((with_reducible refine gate_callee (f := 48) rfl ?_); refine goesL_ (some 44) rfl rfl Try.func48 (by kernel_rfl) rfl #[.int .i64 a3] rfl (by (try simp only [List.map_toArray, List.map_cons, List.map_nil]); first | done | rfl | (simp only [List.length_drop, List.length_take]; rfl)) ?_; (with_reducible refine (signalboxref36_cut.calls a3 t337 _ A13.out).mono ?_); rintro e w' ⟨rfl, ⟨nd, rfl⟩⟩; refine ⟨_, rfl, ?_⟩))
                refine bodyPost_ret (results_list (rs := [.tmp 8, .tmp 9, .tmp 10, .tmp 11]) rfl (by simp) (.tmp (.tmp (.tmp (.tmp .nil))))) rfl ?_
                exact ⟨by first | rfl | (simp; done) | (simp [*]; done), by repeat (first | exact Drawn0.refl _ | apply Drawn0.step)⟩
            · rw [if_neg c11] at H
              have c11b0 : decide (0 < t336) = false := decide_eq_false c11
              clear c11
              replace H := Option.bind_eq_some_iff.mp H
              obtain ⟨t338, A140, H⟩ := H
              replace H : (some (wrap64 (1 + (wrap64 (Int.tdiv (wrap64 ((wrap64 (a0 - 6)) + 6)) 7))), 1, wrap64 (t338 * (wrap64 ((wrap64 (Int.tdiv (wrap64 ((wrap64 (a0 - 6)) + 6)) 7)) - 1))), 0)) = some (r1, r2, r3, r4) := H
              have A14 := Aside0.mk A140
              clear A140
              simp only [Option.some.injEq, Prod.mk.injEq] at H
              obtain ⟨rfl, rfl, rfl, rfl⟩ := H
              go_wp2_with (first | ((with_reducible refine gate_callee (f := 48) rfl ?_); refine goesL_ (some 31) rfl rfl Try.func48 (by kernel_rfl) rfl #[.int .i64 a2] rfl (by (try simp only [List.map_toArray, List.map_cons, List.map_nil]); first | done | rfl | (simp only [List.length_drop, List.length_take]; rfl)) ?_; (with_reducible refine (signalboxref36_cut.calls a2 t336 _ A10.out).mono ?_); rintro e w' ⟨rfl, ⟨nd, rfl⟩⟩; refine ⟨_, rfl, ?_⟩) | ((with_reducible refine gate_callee (f := 48) rfl ?_); refine goesL_ (some 44) rfl rfl Try.func48 (by kernel_rfl) rfl #[.int .i64 a3] rfl (by (try simp only [List.map_toArray, List.map_cons, List.map_nil]); first | done | rfl | (simp only [List.length_drop, List.length_take]; rfl)) ?_; (with_reducible refine (signalboxref36_cut.calls a3 t338 _ A14.out).mono ?_); rintro e w' ⟨rfl, ⟨nd, rfl⟩⟩; refine ⟨_, rfl, ?_⟩))
              refine bodyPost_ret (results_list (rs := [.tmp 8, .tmp 9, .tmp 10, .tmp 11]) rfl (by simp) (.tmp (.tmp (.tmp (.tmp .nil))))) rfl ?_
              exact ⟨by first | rfl | (simp; done) | (simp [*]; done), by repeat (first | exact Drawn0.refl _ | apply Drawn0.step)⟩

end Go.Proofs.Ythgnhhdblbiihaa.P
