/- Printed for this claim by a program of the session (wip/gp.py, which drives the kit's printer): a Go function as a plain Lean function, and that its call answers it, wherever that function answers; no other conditions. -/
import Derived.Test.YtbpjbnhhopohgaaP0
import Derived.Test.YtbpjbnhhopohgaaPsegMany
import Derived.Test.YtbpjbnhhopohgaaPsignalboxlaw35alive
namespace Go.Proofs.Ytbpjbnhhopohgaa.P
open Go.RowKit Go.Proofs.YtbpjbnhhopohgaaW.PrintWords Go.Proofs.YtbpjbnhhopohgaaW.PrintLast Go.Proofs.YtbpjbnhhopohgaaW.PrintMore
attribute [local go_sem] max2_int min2_int max_two min_two max_three min_three max_four min_four   -- for this text's walks alone
set_option linter.unusedVariables false
set_option linter.unusedSimpArgs false

/-! ### signalboxlaw35_SegMany: function 3 -/
def signalboxlaw35_SegMany.j0 : Nat → Int → Int → Bool → Option (Bool)
  | 0, _, _, _ => none
  | k + 1, x0, x3, x12 => if x12 = true then (if x3 = 0 then ((signalboxlaw35_alive.f).bind fun t113 => (some t113)) else (some false)) else (if x3 > 1 then (if x3 ≥ 1 then (if x3 ≤ 586 then (if x0 ≤ (wrap64 (6 + (wrap64 (7 * (wrap64 (x3 - 1)))))) then (if x3 = 1 then ((signalboxlaw35_alive.f).bind fun t114 => (some t114)) else (if x0 > 7 then (if x0 > (wrap64 (6 + (wrap64 (7 * (wrap64 (x3 - 2)))))) then ((signalboxlaw35_alive.f).bind fun t115 => (some t115)) else (some false)) else (some false))) else (some false)) else (some false)) else (some false)) else (if x3 ≥ 1 then (if x3 ≤ 586 then (if x0 ≤ 7 then (if x3 = 1 then ((signalboxlaw35_alive.f).bind fun t116 => (some t116)) else (if x0 > 7 then (if x0 > (wrap64 (6 + (wrap64 (7 * (wrap64 (x3 - 2)))))) then ((signalboxlaw35_alive.f).bind fun t117 => (some t117)) else (some false)) else (some false))) else (some false)) else (some false)) else (some false)))
def signalboxlaw35_SegMany.f (k : Nat) (a0 : Int) : Option (Bool) := (seg_Many.f k a0).bind fun t112 => (if a0 < 1 then (signalboxlaw35_SegMany.j0 k a0 t112 true) else (signalboxlaw35_SegMany.j0 k a0 t112 (decide (a0 > 4095))))
theorem signalboxlaw35_SegMany.mono_l : ∀ k, (∀ y0 y1 y2, LeO (signalboxlaw35_SegMany.j0 k y0 y1 y2) (signalboxlaw35_SegMany.j0 (k + 1) y0 y1 y2))
  | 0 => fun _ _ _ r h => by simp [signalboxlaw35_SegMany.j0] at h
  | k + 1 => by
    have ih0 := signalboxlaw35_SegMany.mono_l k
    · intro y0 y1 y2
      unfold signalboxlaw35_SegMany.j0
      repeat' first
      | (with_reducible exact ih0 _ _ _)
      | (with_reducible exact seg_Many.mono _ _)
      | (with_reducible exact LeO.refl _)
      | (with_reducible exact LeO.none _)
      | (with_reducible refine LeO.ite ?_ ?_)
      | (with_reducible refine LeO.bind ?_ (fun _ => ?_))
      | exact ih0 _ _ _
      | exact seg_Many.mono _ _
      | exact LeO.none _
      | refine LeO.ite ?_ ?_
      | refine LeO.bind ?_ (fun _ => ?_)
theorem signalboxlaw35_SegMany.mono : ∀ a0 k, LeO (signalboxlaw35_SegMany.f k a0) (signalboxlaw35_SegMany.f (k + 1) a0) := by
  intro a0 k
  have ih0 := signalboxlaw35_SegMany.mono_l k
  unfold signalboxlaw35_SegMany.f
  repeat' first
      | (with_reducible exact ih0 _ _ _)
      | (with_reducible exact seg_Many.mono _ _)
      | (with_reducible exact LeO.refl _)
      | (with_reducible exact LeO.none _)
      | (with_reducible refine LeO.ite ?_ ?_)
      | (with_reducible refine LeO.bind ?_ (fun _ => ?_))
      | exact ih0 _ _ _
      | exact seg_Many.mono _ _
      | exact LeO.none _
      | refine LeO.ite ?_ ?_
      | refine LeO.bind ?_ (fun _ => ?_)
set_option maxHeartbeats 8000000 in
set_option maxRecDepth 100000 in
theorem signalboxlaw35_SegMany.calls (k : Nat) (a0 : Int) (r : Bool) (w : World) (h : signalboxlaw35_SegMany.f k a0 = some r) :
    Calls Try.prog 3 #[.int .i64 a0] w fun e w' => e = .returned (.bool r) ∧ Below w.heap.size w w' := by
  have HB := Aside0.mk (Below.refl w.heap.size w)
  have H : ((seg_Many.f k a0).bind fun t112 => (if a0 < 1 then (signalboxlaw35_SegMany.j0 k a0 t112 true) else (signalboxlaw35_SegMany.j0 k a0 t112 (decide (a0 > 4095))))) = some r := h
  clear h
  replace H := Option.bind_eq_some_iff.mp H
  obtain ⟨t112, A20, H⟩ := H
  replace H : (if a0 < 1 then (signalboxlaw35_SegMany.j0 k a0 t112 true) else (signalboxlaw35_SegMany.j0 k a0 t112 (decide (a0 > 4095)))) = some r := H
  have A2 := Aside0.mk A20
  clear A20
  have HC3 := Aside0.mk H
  clear H
  go_enter Try.func3, Try.ntmps3
  go_upto_region 2 with (first | ((with_reducible refine gate_callee (f := 13) rfl ?_); refine goesL_ (some 6) rfl rfl Try.func13 (by kernel_rfl) rfl #[.int .i64 a0] rfl (by (try simp only [List.map_toArray, List.map_cons, List.map_nil]); first | done | rfl | (simp only [List.length_drop, List.length_take]; rfl)) ?_; (with_reducible refine (seg_Many.calls k a0 t112 _ A2.out).mono ?_); rintro e w' ⟨rfl, ⟨nd, rfl⟩⟩; refine ⟨_, rfl, ?_⟩))
  (try simp only [Act.put, List.setIfInBounds_toArray, List.set_cons_zero, List.set_cons_succ])
  go_cut [12] (fun v12 wc => ∃ (kq : Nat) (x12_2 : Bool), v12 = .bool x12_2 ∧ Aside0 (signalboxlaw35_SegMany.j0 kq a0 t112 x12_2 = some r) ∧ Aside0 (kq ≤ k) ∧ Aside0 (Below w.heap.size w wc))
  case first =>
    have H := HC3.out
    clear HC3
    by_cases c4 : a0 < 1
    · rw [if_pos c4] at H
      have c4b0 : decide (a0 < 1) = true := decide_eq_true c4
      clear c4
      (first | rw [c4b0] | (simp only [i64_w, i32_w]; rw [c4b0]) | skip)
      have H' := Aside0.mk H
      clear H
      go_wp2
      go_meet
      case rel => exact ⟨_, (true), (by first | rfl | (simp; done) | (simp [*]; done)), H', ⟨by first | omega | exact Nat.le_refl _⟩, ⟨by repeat (first | (with_reducible first | exact HB.out | apply below_alloc | apply pw_below_drewN | apply below_drew1) | exact HB.out)⟩⟩
    · rw [if_neg c4] at H
      have c4b0 : decide (a0 < 1) = false := decide_eq_false c4
      clear c4
      (first | rw [c4b0] | (simp only [i64_w, i32_w]; rw [c4b0]) | skip)
      have H' := Aside0.mk H
      clear H
      go_wp2
      go_meet
      case rel => exact ⟨_, (decide (a0 > 4095)), (by first | rfl | (simp; done) | (simp [*]; done)), H', ⟨by first | omega | exact Nat.le_refl _⟩, ⟨by repeat (first | (with_reducible first | exact HB.out | apply below_alloc | apply pw_below_drewN | apply below_drew1) | exact HB.out)⟩⟩
  case rest =>
    clear HC3
    try clear c1
    try clear p2
    try clear c3
    try clear c4
    try clear c4b0
    obtain ⟨kq, x12_2, rfl, HA, HJ2, HB⟩ := hcut
    cases kq with
    | zero => exact absurd HA.out (by simp [signalboxlaw35_SegMany.j0])
    | succ kj2 =>
      have H := HA.out
      clear HA
      simp only [signalboxlaw35_SegMany.j0] at H
      by_cases c5 : x12_2 = true
      · subst c5
        have H1 : (if t112 = 0 then ((signalboxlaw35_alive.f).bind fun t113 => (some t113)) else (some false)) = some r := by rw [if_pos rfl] at H; exact H
        clear H
        have H := H1
        clear H1
        by_cases c6 : t112 = 0
        · rw [if_pos c6] at H
          have c6b0 : (t112 == 0) = true := beq_iff_eq.mpr c6
          have c6b1 : (t112 != 0) = false := bne_eq_false_iff_eq.mpr c6
          clear c6
          replace H := Option.bind_eq_some_iff.mp H
          obtain ⟨t113, A70, H⟩ := H
          replace H : (some t113) = some r := H
          have A7 := Aside0.mk A70
          clear A70
          obtain rfl := Option.some.inj H
          go_wp2_with (first | (go_at_call 14; (with_reducible refine (signalboxlaw35_alive.calls  t113 _ A7.out).mono ?_); rintro e w8 ⟨rfl, hb⟩; have n0_ := Aside0.mk (below_step (by repeat (first | (with_reducible first | exact HB.out | apply below_alloc | apply pw_below_drewN | apply below_drew1) | exact HB.out)) hb); clear HB; have HB := n0_; clear n0_; (try clear hb); (try clear hb2); (try clear hk); (try clear hi)))
          go_ret
          exact ⟨by first | rfl | (simp [errW_none, errW_some] <;> rfl) | (simp [*, errW_none, errW_some] <;> rfl), by repeat (first | (with_reducible first | exact HB.out | apply below_alloc | apply pw_below_drewN | apply below_drew1) | exact HB.out)⟩
        · rw [if_neg c6] at H
          have c6b0 : (t112 == 0) = false := beq_eq_false_iff_ne.mpr c6
          have c6b1 : (t112 != 0) = true := bne_iff_ne.mpr c6
          obtain rfl := Option.some.inj H
          go_wp2
          go_ret
          exact ⟨by first | rfl | (simp [errW_none, errW_some] <;> rfl) | (simp [*, errW_none, errW_some] <;> rfl), by repeat (first | (with_reducible first | exact HB.out | apply below_alloc | apply pw_below_drewN | apply below_drew1) | exact HB.out)⟩
      · replace c5 := Bool.eq_false_iff.mpr c5
        subst c5
        have H1 : (if t112 > 1 then (if t112 ≥ 1 then (if t112 ≤ 586 then (if a0 ≤ (wrap64 (6 + (wrap64 (7 * (wrap64 (t112 - 1)))))) then (if t112 = 1 then ((signalboxlaw35_alive.f).bind fun t114 => (some t114)) else (if a0 > 7 then (if a0 > (wrap64 (6 + (wrap64 (7 * (wrap64 (t112 - 2)))))) then ((signalboxlaw35_alive.f).bind fun t115 => (some t115)) else (some false)) else (some false))) else (some false)) else (some false)) else (some false)) else (if t112 ≥ 1 then (if t112 ≤ 586 then (if a0 ≤ 7 then (if t112 = 1 then ((signalboxlaw35_alive.f).bind fun t116 => (some t116)) else (if a0 > 7 then (if a0 > (wrap64 (6 + (wrap64 (7 * (wrap64 (t112 - 2)))))) then ((signalboxlaw35_alive.f).bind fun t117 => (some t117)) else (some false)) else (some false))) else (some false)) else (some false)) else (some false))) = some r := by rw [if_neg (show ¬ (false = true) by decide)] at H; exact H
        clear H
        have H := H1
        clear H1
        by_cases c9 : t112 > 1
        · rw [if_pos c9] at H
          have c9b0 : decide (1 < t112) = true := decide_eq_true c9
          clear c9
          by_cases c10 : t112 ≥ 1
          · rw [if_pos c10] at H
            have c10b0 : decide (1 ≤ t112) = true := decide_eq_true c10
            clear c10
            by_cases c11 : t112 ≤ 586
            · rw [if_pos c11] at H
              have c11b0 : decide (t112 ≤ 586) = true := decide_eq_true c11
              clear c11
              by_cases c12 : a0 ≤ (wrap64 (6 + (wrap64 (7 * (wrap64 (t112 - 1))))))
              · rw [if_pos c12] at H
                have c12b0 : decide (a0 ≤ (wrap64 (6 + (wrap64 (7 * (wrap64 (t112 - 1))))))) = true := decide_eq_true c12
                clear c12
                by_cases c13 : t112 = 1
                · rw [if_pos c13] at H
                  have c13b0 : (t112 == 1) = true := beq_iff_eq.mpr c13
                  have c13b1 : (t112 != 1) = false := bne_eq_false_iff_eq.mpr c13
                  clear c13
                  replace H := Option.bind_eq_some_iff.mp H
                  obtain ⟨t114, A140, H⟩ := H
                  replace H : (some t114) = some r := H
                  have A14 := Aside0.mk A140
                  clear A140
                  obtain rfl := Option.some.inj H
                  go_wp2_with (first | (go_at_call 14; (with_reducible refine (signalboxlaw35_alive.calls  t114 _ A14.out).mono ?_); rintro e w15 ⟨rfl, hb⟩; have n0_ := Aside0.mk (below_step (by repeat (first | (with_reducible first | exact HB.out | apply below_alloc | apply pw_below_drewN | apply below_drew1) | exact HB.out)) hb); clear HB; have HB := n0_; clear n0_; (try clear hb); (try clear hb2); (try clear hk); (try clear hi)))
                  go_ret
                  exact ⟨by first | rfl | (simp [errW_none, errW_some] <;> rfl) | (simp [*, errW_none, errW_some] <;> rfl), by repeat (first | (with_reducible first | exact HB.out | apply below_alloc | apply pw_below_drewN | apply below_drew1) | exact HB.out)⟩
                · rw [if_neg c13] at H
                  have c13b0 : (t112 == 1) = false := beq_eq_false_iff_ne.mpr c13
                  have c13b1 : (t112 != 1) = true := bne_iff_ne.mpr c13
                  by_cases c16 : a0 > 7
                  · rw [if_pos c16] at H
                    have c16b0 : decide (7 < a0) = true := decide_eq_true c16
                    clear c16
                    by_cases c17 : a0 > (wrap64 (6 + (wrap64 (7 * (wrap64 (t112 - 2))))))
                    · rw [if_pos c17] at H
                      have c17b0 : decide ((wrap64 (6 + (wrap64 (7 * (wrap64 (t112 - 2)))))) < a0) = true := decide_eq_true c17
                      clear c17
                      replace H := Option.bind_eq_some_iff.mp H
                      obtain ⟨t115, A180, H⟩ := H
                      replace H : (some t115) = some r := H
                      have A18 := Aside0.mk A180
                      clear A180
                      obtain rfl := Option.some.inj H
                      go_wp2_with (first | (go_at_call 14; (with_reducible refine (signalboxlaw35_alive.calls  t115 _ A18.out).mono ?_); rintro e w19 ⟨rfl, hb⟩; have n0_ := Aside0.mk (below_step (by repeat (first | (with_reducible first | exact HB.out | apply below_alloc | apply pw_below_drewN | apply below_drew1) | exact HB.out)) hb); clear HB; have HB := n0_; clear n0_; (try clear hb); (try clear hb2); (try clear hk); (try clear hi)))
                      go_ret
                      exact ⟨by first | rfl | (simp [errW_none, errW_some] <;> rfl) | (simp [*, errW_none, errW_some] <;> rfl), by repeat (first | (with_reducible first | exact HB.out | apply below_alloc | apply pw_below_drewN | apply below_drew1) | exact HB.out)⟩
                    · rw [if_neg c17] at H
                      have c17b0 : decide ((wrap64 (6 + (wrap64 (7 * (wrap64 (t112 - 2)))))) < a0) = false := decide_eq_false c17
                      clear c17
                      obtain rfl := Option.some.inj H
                      go_wp2
                      go_ret
                      exact ⟨by first | rfl | (simp [errW_none, errW_some] <;> rfl) | (simp [*, errW_none, errW_some] <;> rfl), by repeat (first | (with_reducible first | exact HB.out | apply below_alloc | apply pw_below_drewN | apply below_drew1) | exact HB.out)⟩
                  · rw [if_neg c16] at H
                    have c16b0 : decide (7 < a0) = false := decide_eq_false c16
                    clear c16
                    obtain rfl := Option.some.inj H
                    go_wp2
                    go_ret
                    exact ⟨by first | rfl | (simp [errW_none, errW_some] <;> rfl) | (simp [*, errW_none, errW_some] <;> rfl), by repeat (first | (with_reducible first | exact HB.out | apply below_alloc | apply pw_below_drewN | apply below_drew1) | exact HB.out)⟩
              · rw [if_neg c12] at H
                have c12b0 : decide (a0 ≤ (wrap64 (6 + (wrap64 (7 * (wrap64 (t112 - 1))))))) = false := decide_eq_false c12
                clear c12
                obtain rfl := Option.some.inj H
                go_wp2
                go_ret
                exact ⟨by first | rfl | (simp [errW_none, errW_some] <;> rfl) | (simp [*, errW_none, errW_some] <;> rfl), by repeat (first | (with_reducible first | exact HB.out | apply below_alloc | apply pw_below_drewN | apply below_drew1) | exact HB.out)⟩
            · rw [if_neg c11] at H
              have c11b0 : decide (t112 ≤ 586) = false := decide_eq_false c11
              clear c11
              obtain rfl := Option.some.inj H
              go_wp2
              go_ret
              exact ⟨by first | rfl | (simp [errW_none, errW_some] <;> rfl) | (simp [*, errW_none, errW_some] <;> rfl), by repeat (first | (with_reducible first | exact HB.out | apply below_alloc | apply pw_below_drewN | apply below_drew1) | exact HB.out)⟩
          · rw [if_neg c10] at H
            have c10b0 : decide (1 ≤ t112) = false := decide_eq_false c10
            clear c10
            obtain rfl := Option.some.inj H
            go_wp2
            go_ret
            exact ⟨by first | rfl | (simp [errW_none, errW_some] <;> rfl) | (simp [*, errW_none, errW_some] <;> rfl), by repeat (first | (with_reducible first | exact HB.out | apply below_alloc | apply pw_below_drewN | apply below_drew1) | exact HB.out)⟩
        · rw [if_neg c9] at H
          have c9b0 : decide (1 < t112) = false := decide_eq_false c9
          clear c9
          by_cases c20 : t112 ≥ 1
          · rw [if_pos c20] at H
            have c20b0 : decide (1 ≤ t112) = true := decide_eq_true c20
            clear c20
            by_cases c21 : t112 ≤ 586
            · rw [if_pos c21] at H
              have c21b0 : decide (t112 ≤ 586) = true := decide_eq_true c21
              clear c21
              by_cases c22 : a0 ≤ 7
              · rw [if_pos c22] at H
                have c22b0 : decide (a0 ≤ 7) = true := decide_eq_true c22
                clear c22
                by_cases c23 : t112 = 1
                · rw [if_pos c23] at H
                  have c23b0 : (t112 == 1) = true := beq_iff_eq.mpr c23
                  have c23b1 : (t112 != 1) = false := bne_eq_false_iff_eq.mpr c23
                  clear c23
                  replace H := Option.bind_eq_some_iff.mp H
                  obtain ⟨t116, A240, H⟩ := H
                  replace H : (some t116) = some r := H
                  have A24 := Aside0.mk A240
                  clear A240
                  obtain rfl := Option.some.inj H
                  go_wp2_with (first | (go_at_call 14; (with_reducible refine (signalboxlaw35_alive.calls  t116 _ A24.out).mono ?_); rintro e w25 ⟨rfl, hb⟩; have n0_ := Aside0.mk (below_step (by repeat (first | (with_reducible first | exact HB.out | apply below_alloc | apply pw_below_drewN | apply below_drew1) | exact HB.out)) hb); clear HB; have HB := n0_; clear n0_; (try clear hb); (try clear hb2); (try clear hk); (try clear hi)))
                  go_ret
                  exact ⟨by first | rfl | (simp [errW_none, errW_some] <;> rfl) | (simp [*, errW_none, errW_some] <;> rfl), by repeat (first | (with_reducible first | exact HB.out | apply below_alloc | apply pw_below_drewN | apply below_drew1) | exact HB.out)⟩
                · rw [if_neg c23] at H
                  have c23b0 : (t112 == 1) = false := beq_eq_false_iff_ne.mpr c23
                  have c23b1 : (t112 != 1) = true := bne_iff_ne.mpr c23
                  by_cases c26 : a0 > 7
                  · rw [if_pos c26] at H
                    have c26b0 : decide (7 < a0) = true := decide_eq_true c26
                    clear c26
                    by_cases c27 : a0 > (wrap64 (6 + (wrap64 (7 * (wrap64 (t112 - 2))))))
                    · rw [if_pos c27] at H
                      have c27b0 : decide ((wrap64 (6 + (wrap64 (7 * (wrap64 (t112 - 2)))))) < a0) = true := decide_eq_true c27
                      clear c27
                      replace H := Option.bind_eq_some_iff.mp H
                      obtain ⟨t117, A280, H⟩ := H
                      replace H : (some t117) = some r := H
                      have A28 := Aside0.mk A280
                      clear A280
                      obtain rfl := Option.some.inj H
                      go_wp2_with (first | (go_at_call 14; (with_reducible refine (signalboxlaw35_alive.calls  t117 _ A28.out).mono ?_); rintro e w29 ⟨rfl, hb⟩; have n0_ := Aside0.mk (below_step (by repeat (first | (with_reducible first | exact HB.out | apply below_alloc | apply pw_below_drewN | apply below_drew1) | exact HB.out)) hb); clear HB; have HB := n0_; clear n0_; (try clear hb); (try clear hb2); (try clear hk); (try clear hi)))
                      go_ret
                      exact ⟨by first | rfl | (simp [errW_none, errW_some] <;> rfl) | (simp [*, errW_none, errW_some] <;> rfl), by repeat (first | (with_reducible first | exact HB.out | apply below_alloc | apply pw_below_drewN | apply below_drew1) | exact HB.out)⟩
                    · rw [if_neg c27] at H
                      have c27b0 : decide ((wrap64 (6 + (wrap64 (7 * (wrap64 (t112 - 2)))))) < a0) = false := decide_eq_false c27
                      clear c27
                      obtain rfl := Option.some.inj H
                      go_wp2
                      go_ret
                      exact ⟨by first | rfl | (simp [errW_none, errW_some] <;> rfl) | (simp [*, errW_none, errW_some] <;> rfl), by repeat (first | (with_reducible first | exact HB.out | apply below_alloc | apply pw_below_drewN | apply below_drew1) | exact HB.out)⟩
                  · rw [if_neg c26] at H
                    have c26b0 : decide (7 < a0) = false := decide_eq_false c26
                    clear c26
                    obtain rfl := Option.some.inj H
                    go_wp2
                    go_ret
                    exact ⟨by first | rfl | (simp [errW_none, errW_some] <;> rfl) | (simp [*, errW_none, errW_some] <;> rfl), by repeat (first | (with_reducible first | exact HB.out | apply below_alloc | apply pw_below_drewN | apply below_drew1) | exact HB.out)⟩
              · rw [if_neg c22] at H
                have c22b0 : decide (a0 ≤ 7) = false := decide_eq_false c22
                clear c22
                obtain rfl := Option.some.inj H
                go_wp2
                go_ret
                exact ⟨by first | rfl | (simp [errW_none, errW_some] <;> rfl) | (simp [*, errW_none, errW_some] <;> rfl), by repeat (first | (with_reducible first | exact HB.out | apply below_alloc | apply pw_below_drewN | apply below_drew1) | exact HB.out)⟩
            · rw [if_neg c21] at H
              have c21b0 : decide (t112 ≤ 586) = false := decide_eq_false c21
              clear c21
              obtain rfl := Option.some.inj H
              go_wp2
              go_ret
              exact ⟨by first | rfl | (simp [errW_none, errW_some] <;> rfl) | (simp [*, errW_none, errW_some] <;> rfl), by repeat (first | (with_reducible first | exact HB.out | apply below_alloc | apply pw_below_drewN | apply below_drew1) | exact HB.out)⟩
          · rw [if_neg c20] at H
            have c20b0 : decide (1 ≤ t112) = false := decide_eq_false c20
            clear c20
            obtain rfl := Option.some.inj H
            go_wp2
            go_ret
            exact ⟨by first | rfl | (simp [errW_none, errW_some] <;> rfl) | (simp [*, errW_none, errW_some] <;> rfl), by repeat (first | (with_reducible first | exact HB.out | apply below_alloc | apply pw_below_drewN | apply below_drew1) | exact HB.out)⟩

/-- THE ONE PURE STATEMENT of signalboxlaw35_SegMany: yours. -/
def signalboxlaw35_SegMany.Pure : Prop := ∀ (a0 : Int), (Lit.int .i64 a0).wf = true → ∃ k, signalboxlaw35_SegMany.f k a0 = some true
theorem signalboxlaw35_SegMany.walk (P : signalboxlaw35_SegMany.Pure) (a0 : Int) (w : World) (w0 : (Lit.int .i64 a0).wf = true) :
    Calls Try.prog 3 #[.int .i64 a0] w fun e w' => e = .returned (.bool true) ∧ Below w.heap.size w w' := by
  obtain ⟨k, h⟩ := P a0 w0
  refine (signalboxlaw35_SegMany.calls k a0 true w h).mono ?_
  rintro e w' ⟨rfl, hd⟩
  exact ⟨rfl, hd⟩

end Go.Proofs.Ytbpjbnhhopohgaa.P
