/- Printed for this claim by a program of the session (wip/gp.py, which drives the kit's printer): a Go function as a plain Lean function, and that its call answers it, wherever that function answers; no other conditions. -/
import Derived.Test.YthgnhhdblbiihaaP0
import Derived.Test.YthgnhhdblbiihaaPsignalboxlaw36alive
import Derived.Test.YthgnhhdblbiihaaPflowIndrop
import Derived.Test.YthgnhhdblbiihaaGFlowIn
import Derived.Test.YthgnhhdblbiihaaGFlowTake
import Derived.Test.YthgnhhdblbiihaaGRefSplit
namespace Go.Proofs.Ythgnhhdblbiihaa.P
open Go.RowKit Go.Proofs.YthgnhhdblbiihaaW.PrintWords Go.Proofs.YthgnhhdblbiihaaW.PrintLast Go.Proofs.YthgnhhdblbiihaaW.PrintMore
attribute [local go_sem] max2_int min2_int max_two min_two max_three min_three max_four min_four   -- for this text's walks alone
set_option linter.unusedVariables false
set_option linter.unusedSimpArgs false

/-! ### signalboxlaw36_FlowNever: function 10 -/
mutual
def signalboxlaw36_FlowNever.j0 : Nat → ByteArray → Int → Int → List Bool → List ByteArray → Bool → Option (Bool)
  | 0, _, _, _, _, _, _ => none
  | k + 1, x0, x1, x2, x3, x9, x30 => if x30 = true then ((signalboxlaw36_alive.f).bind fun t356 => (some t356)) else ((flow_Hear.f (x0.size : Int) x1 x2).bind fun bt357 => (signalboxlaw36_FlowNever.l0 k x0 x3 x9 0 x9 (x9.length : Int) 0 bt357.1 bt357.2.1 bt357.2.2.1 bt357.2.2.2.1 bt357.2.2.2.2.1 bt357.2.2.2.2.2.1 bt357.2.2.2.2.2.2.1 bt357.2.2.2.2.2.2.2.1 bt357.2.2.2.2.2.2.2.2))
def signalboxlaw36_FlowNever.l0 : Nat → ByteArray → List Bool → List ByteArray → Int → List ByteArray → Int → Int → Int → Int → Int → ByteArray → Int → Int → Int → ByteArray → Bool → Option (Bool)
  | 0, _, _, _, _, _, _, _, _, _, _, _, _, _, _, _, _ => none
  | k + 1, x0, x3, x9, x12, x37, x38, x39, x367000, x367001, x367002, x367003, x367004, x367005, x367006, x367007, x367008 => if x39 < x38 then (if 0 ≤ x39 then (if x39 < (x37.length : Int) then (if x39 < (x3.length : Int) then (signalboxlaw36_FlowNever.j2 k x0 x3 x9 x12 x39 (rdOf ByteArray.empty x37 x39) x37 x38 x39 (rdOf false x3 x39) x367000 x367001 x367002 x367003 x367004 x367005 x367006 x367007 x367008) else (signalboxlaw36_FlowNever.j2 k x0 x3 x9 x12 x39 (rdOf ByteArray.empty x37 x39) x37 x38 x39 false x367000 x367001 x367002 x367003 x367004 x367005 x367006 x367007 x367008)) else (none)) else (none)) else ((flow_In_Msg.f x367000 x367001 x367002 x367003 x367004 x367005 x367006 x367007 x367008).bind fun bt367 => (if (bt367.2.1 == (x12 == 0)) = true then (if bt367.2.1 = true then (if bt367.1.toList = x0.toList then ((signalboxlaw36_alive.f).bind fun t378 => (some t378)) else (some false)) else ((signalboxlaw36_alive.f).bind fun t379 => (some t379))) else (some false)))
def signalboxlaw36_FlowNever.j2 : Nat → ByteArray → List Bool → List ByteArray → Int → Int → ByteArray → List ByteArray → Int → Int → Bool → Int → Int → Int → ByteArray → Int → Int → Int → ByteArray → Bool → Option (Bool)
  | 0, _, _, _, _, _, _, _, _, _, _, _, _, _, _, _, _, _, _, _ => none
  | k + 1, x0, x3, x9, x12, x13, x14, x37, x38, x39, x53, x367000, x367001, x367002, x367003, x367004, x367005, x367006, x367007, x367008 => if x53 = true then (signalboxlaw36_FlowNever.l0 k x0 x3 x9 (wrap64 (x12 + 1)) x37 x38 (wrap64 (x39 + 1)) x367000 x367001 x367002 x367003 x367004 x367005 x367006 x367007 x367008) else ((flow_In_Take.f x367000 x367001 x367002 x367003 x367004 x367005 x367006 x367007 x367008 x14).bind fun bt382 => ((flow_In_Msg.f bt382.2.2.1 bt382.2.2.2.1 bt382.2.2.2.2.1 bt382.2.2.2.2.2.1 bt382.2.2.2.2.2.2.1 bt382.2.2.2.2.2.2.2.1 bt382.2.2.2.2.2.2.2.2.1 bt382.2.2.2.2.2.2.2.2.2.1 bt382.2.2.2.2.2.2.2.2.2.2).bind fun bt393 => (if bt393.2.1 = true then (if bt393.1.toList = x0.toList then (if x12 > 0 then (some false) else (if x13 < (wrap64 ((x9.length : Int) - 1)) then (some false) else (signalboxlaw36_FlowNever.l0 k x0 x3 x9 x12 x37 x38 (wrap64 (x39 + 1)) bt393.2.2.1 bt393.2.2.2.1 bt393.2.2.2.2.1 bt393.2.2.2.2.2.1 bt393.2.2.2.2.2.2.1 bt393.2.2.2.2.2.2.2.1 bt393.2.2.2.2.2.2.2.2.1 bt393.2.2.2.2.2.2.2.2.2.1 bt393.2.2.2.2.2.2.2.2.2.2))) else (some false)) else (signalboxlaw36_FlowNever.l0 k x0 x3 x9 x12 x37 x38 (wrap64 (x39 + 1)) bt393.2.2.1 bt393.2.2.2.1 bt393.2.2.2.2.1 bt393.2.2.2.2.2.1 bt393.2.2.2.2.2.2.1 bt393.2.2.2.2.2.2.2.1 bt393.2.2.2.2.2.2.2.2.1 bt393.2.2.2.2.2.2.2.2.2.1 bt393.2.2.2.2.2.2.2.2.2.2))))
end
def signalboxlaw36_FlowNever.f (k : Nat) (a0 : ByteArray) (a1 : Int) (a2 : Int) (l3 : List Bool) : Option (Bool) := (signalboxref35_Split.f a0).bind fun bt352 => (if (a0.size : Int) > 4095 then (signalboxlaw36_FlowNever.j0 k a0 a1 a2 l3 bt352.1 true) else (signalboxlaw36_FlowNever.j0 k a0 a1 a2 l3 bt352.1 (bt352.2 != 0)))
theorem signalboxlaw36_FlowNever.mono_l : ∀ k, (∀ y0 y1 y2 y3 y4 y5, LeO (signalboxlaw36_FlowNever.j0 k y0 y1 y2 y3 y4 y5) (signalboxlaw36_FlowNever.j0 (k + 1) y0 y1 y2 y3 y4 y5)) ∧ (∀ y0 y1 y2 y3 y4 y5 y6 y7 y8 y9 y10 y11 y12 y13 y14 y15, LeO (signalboxlaw36_FlowNever.l0 k y0 y1 y2 y3 y4 y5 y6 y7 y8 y9 y10 y11 y12 y13 y14 y15) (signalboxlaw36_FlowNever.l0 (k + 1) y0 y1 y2 y3 y4 y5 y6 y7 y8 y9 y10 y11 y12 y13 y14 y15)) ∧ (∀ y0 y1 y2 y3 y4 y5 y6 y7 y8 y9 y10 y11 y12 y13 y14 y15 y16 y17 y18, LeO (signalboxlaw36_FlowNever.j2 k y0 y1 y2 y3 y4 y5 y6 y7 y8 y9 y10 y11 y12 y13 y14 y15 y16 y17 y18) (signalboxlaw36_FlowNever.j2 (k + 1) y0 y1 y2 y3 y4 y5 y6 y7 y8 y9 y10 y11 y12 y13 y14 y15 y16 y17 y18))
  | 0 => ⟨fun _ _ _ _ _ _ r h => by simp [signalboxlaw36_FlowNever.j0] at h, fun _ _ _ _ _ _ _ _ _ _ _ _ _ _ _ _ r h => by simp [signalboxlaw36_FlowNever.l0] at h, fun _ _ _ _ _ _ _ _ _ _ _ _ _ _ _ _ _ _ _ r h => by simp [signalboxlaw36_FlowNever.j2] at h⟩
  | k + 1 => by
    obtain ⟨ih0, ih1, ih2⟩ := signalboxlaw36_FlowNever.mono_l k
    refine ⟨?_, ?_, ?_⟩
    · intro y0 y1 y2 y3 y4 y5
      unfold signalboxlaw36_FlowNever.j0
      repeat' first
      | (with_reducible exact ih0 _ _ _ _ _ _)
      | (with_reducible exact ih1 _ _ _ _ _ _ _ _ _ _ _ _ _ _ _ _)
      | (with_reducible exact ih2 _ _ _ _ _ _ _ _ _ _ _ _ _ _ _ _ _ _ _)
      | (with_reducible exact LeO.refl _)
      | (with_reducible exact LeO.none _)
      | (with_reducible refine LeO.ite ?_ ?_)
      | (with_reducible refine LeO.bind ?_ (fun _ => ?_))
      | exact ih0 _ _ _ _ _ _
      | exact ih1 _ _ _ _ _ _ _ _ _ _ _ _ _ _ _ _
      | exact ih2 _ _ _ _ _ _ _ _ _ _ _ _ _ _ _ _ _ _ _
      | exact LeO.none _
      | refine LeO.ite ?_ ?_
      | refine LeO.bind ?_ (fun _ => ?_)
    · intro y0 y1 y2 y3 y4 y5 y6 y7 y8 y9 y10 y11 y12 y13 y14 y15
      unfold signalboxlaw36_FlowNever.l0
      repeat' first
      | (with_reducible exact ih0 _ _ _ _ _ _)
      | (with_reducible exact ih1 _ _ _ _ _ _ _ _ _ _ _ _ _ _ _ _)
      | (with_reducible exact ih2 _ _ _ _ _ _ _ _ _ _ _ _ _ _ _ _ _ _ _)
      | (with_reducible exact LeO.refl _)
      | (with_reducible exact LeO.none _)
      | (with_reducible refine LeO.ite ?_ ?_)
      | (with_reducible refine LeO.bind ?_ (fun _ => ?_))
      | exact ih0 _ _ _ _ _ _
      | exact ih1 _ _ _ _ _ _ _ _ _ _ _ _ _ _ _ _
      | exact ih2 _ _ _ _ _ _ _ _ _ _ _ _ _ _ _ _ _ _ _
      | exact LeO.none _
      | refine LeO.ite ?_ ?_
      | refine LeO.bind ?_ (fun _ => ?_)
    · intro y0 y1 y2 y3 y4 y5 y6 y7 y8 y9 y10 y11 y12 y13 y14 y15 y16 y17 y18
      unfold signalboxlaw36_FlowNever.j2
      repeat' first
      | (with_reducible exact ih0 _ _ _ _ _ _)
      | (with_reducible exact ih1 _ _ _ _ _ _ _ _ _ _ _ _ _ _ _ _)
      | (with_reducible exact ih2 _ _ _ _ _ _ _ _ _ _ _ _ _ _ _ _ _ _ _)
      | (with_reducible exact LeO.refl _)
      | (with_reducible exact LeO.none _)
      | (with_reducible refine LeO.ite ?_ ?_)
      | (with_reducible refine LeO.bind ?_ (fun _ => ?_))
      | exact ih0 _ _ _ _ _ _
      | exact ih1 _ _ _ _ _ _ _ _ _ _ _ _ _ _ _ _
      | exact ih2 _ _ _ _ _ _ _ _ _ _ _ _ _ _ _ _ _ _ _
      | exact LeO.none _
      | refine LeO.ite ?_ ?_
      | refine LeO.bind ?_ (fun _ => ?_)
theorem signalboxlaw36_FlowNever.mono : ∀ a0 a1 a2 a3 k, LeO (signalboxlaw36_FlowNever.f k a0 a1 a2 a3) (signalboxlaw36_FlowNever.f (k + 1) a0 a1 a2 a3) := by
  intro a0 a1 a2 a3 k
  obtain ⟨ih0, ih1, ih2⟩ := signalboxlaw36_FlowNever.mono_l k
  unfold signalboxlaw36_FlowNever.f
  repeat' first
      | (with_reducible exact ih0 _ _ _ _ _ _)
      | (with_reducible exact ih1 _ _ _ _ _ _ _ _ _ _ _ _ _ _ _ _)
      | (with_reducible exact ih2 _ _ _ _ _ _ _ _ _ _ _ _ _ _ _ _ _ _ _)
      | (with_reducible exact LeO.refl _)
      | (with_reducible exact LeO.none _)
      | (with_reducible refine LeO.ite ?_ ?_)
      | (with_reducible refine LeO.bind ?_ (fun _ => ?_))
      | exact ih0 _ _ _ _ _ _
      | exact ih1 _ _ _ _ _ _ _ _ _ _ _ _ _ _ _ _
      | exact ih2 _ _ _ _ _ _ _ _ _ _ _ _ _ _ _ _ _ _ _
      | exact LeO.none _
      | refine LeO.ite ?_ ?_
      | refine LeO.bind ?_ (fun _ => ?_)
set_option maxHeartbeats 8000000 in
set_option maxRecDepth 100000 in
theorem signalboxlaw36_FlowNever.calls (k : Nat) (a0 : ByteArray) (a1 : Int) (a2 : Int) (A3 : Option Addr) (c3 : Nat) (l3 : List Bool) (r : Bool) (w : World) (hr3 : Kd.C Kd.bool w A3 l3.length l3) (hc3 : l3.length ≤ c3) (h : signalboxlaw36_FlowNever.f k a0 a1 a2 l3 = some r) :
    Calls Try.prog 10 #[.string a0, .int .i64 a1, .int .i64 a2, .slice A3 l3.length c3] w fun e w' => e = .returned (.bool r) ∧ Below w.heap.size w w' := by
  have HR3 := Aside0.mk hr3
  have HC3 := Aside0.mk hc3
  clear hr3 hc3
  have HB := Aside0.mk (Below.refl w.heap.size w)
  have H : ((signalboxref35_Split.f a0).bind fun bt352 => (if (a0.size : Int) > 4095 then (signalboxlaw36_FlowNever.j0 k a0 a1 a2 l3 bt352.1 true) else (signalboxlaw36_FlowNever.j0 k a0 a1 a2 l3 bt352.1 (bt352.2 != 0)))) = some r := h
  clear h
  replace H := Option.bind_eq_some_iff.mp H
  obtain ⟨⟨t352, t353⟩, A50, H⟩ := H
  replace H : (if (a0.size : Int) > 4095 then (signalboxlaw36_FlowNever.j0 k a0 a1 a2 l3 t352 true) else (signalboxlaw36_FlowNever.j0 k a0 a1 a2 l3 t352 (t353 != 0))) = some r := H
  have A5 := Aside0.mk A50
  clear A50
  have HC6 := Aside0.mk H
  clear H
  go_enter Try.func10, Try.ntmps10
  go_upto_region 2 with (first | ((with_reducible refine gate_callee (f := 31) rfl ?_); refine goesL_ (some 21) rfl rfl Try.func31 (by kernel_rfl) rfl #[.string a0] rfl (by (try simp only [List.map_toArray, List.map_cons, List.map_nil]); first | done | rfl | (simp only [List.length_drop, List.length_take]; rfl)) ?_; (with_reducible refine (signalboxref35_Split.calls a0 t352 t353 _ A5.out).mono ?_); rintro e w7 ⟨v354, rfl, ho0, hb⟩; refine ⟨_, rfl, ?_⟩; have n0_ := Aside0.mk (Kd.R_lower ho0 (below_size (by repeat (first | (with_reducible first | exact HB.out | apply below_alloc | apply pw_below_drewN | apply below_drew1) | exact HB.out)))); have n1_ := Aside0.mk (below_step (by repeat (first | (with_reducible first | exact HB.out | apply below_alloc | apply pw_below_drewN | apply below_drew1) | exact HB.out)) hb); clear HB; have HO355 := n0_; have HB := n1_; clear n0_ n1_; (try clear hb); (try clear hb2); (try clear hk); (try clear hi); (try clear ho0)))
  (try simp only [Act.put, List.setIfInBounds_toArray, List.set_cons_zero, List.set_cons_succ])
  go_cut [30] (fun v30 wc => ∃ (kq : Nat) (x30_5 : Bool), v30 = .bool x30_5 ∧ Aside0 (signalboxlaw36_FlowNever.j0 kq a0 a1 a2 l3 t352 x30_5 = some r) ∧ Aside0 (kq ≤ k) ∧ Aside0 (Kd.R Kd.string 9 wc w.heap.size (fun _ => True) v354 t352) ∧ Aside0 (Below w.heap.size w wc))
  case first =>
    have H := HC6.out
    clear HC6
    by_cases c8 : (a0.size : Int) > 4095
    · rw [if_pos c8] at H
      have c8b0 : decide (4095 < (a0.size : Int)) = true := decide_eq_true c8
      have c8b1 : decide (4095 < a0.size) = true := decide_eq_true (by omega)
      clear c8
      (first | rw [c8b0] | (simp only [i64_w, i32_w]; rw [c8b0]) | skip)
      have H' := Aside0.mk H
      clear H
      go_wp2
      go_meet
      case rel => exact ⟨_, (true), (by first | rfl | (simp; done) | (simp [*]; done)), H', ⟨by first | omega | exact Nat.le_refl _⟩, ⟨by (with_reducible repeat (first | apply Kd.R_alloc | apply Kd.R_drewN | apply Kd.R_drew)); exact HO355.out⟩, ⟨by repeat (first | (with_reducible first | exact HB.out | apply below_alloc | apply pw_below_drewN | apply below_drew1) | exact HB.out)⟩⟩
    · rw [if_neg c8] at H
      have c8b0 : decide (4095 < (a0.size : Int)) = false := decide_eq_false c8
      have c8b1 : decide (4095 < a0.size) = false := decide_eq_false (by omega)
      clear c8
      (first | rw [c8b0] | (simp only [i64_w, i32_w]; rw [c8b0]) | skip)
      have H' := Aside0.mk H
      clear H
      go_wp2
      go_meet
      case rel => exact ⟨_, ((t353 != 0)), (by first | rfl | (simp; done) | (simp [*]; done)), H', ⟨by first | omega | exact Nat.le_refl _⟩, ⟨by (with_reducible repeat (first | apply Kd.R_alloc | apply Kd.R_drewN | apply Kd.R_drew)); exact HO355.out⟩, ⟨by repeat (first | (with_reducible first | exact HB.out | apply below_alloc | apply pw_below_drewN | apply below_drew1) | exact HB.out)⟩⟩
  case rest =>
    clear HC6
    try clear c1
    try clear p2
    try clear c3
    try clear c8
    try clear c8b0
    try clear c8b1
    obtain ⟨kq, x30_5, rfl, HA, HJ5, HO_9, HB⟩ := hcut
    cases kq with
    | zero => exact absurd HA.out (by simp [signalboxlaw36_FlowNever.j0])
    | succ kj5 =>
      have H := HA.out
      clear HA
      simp only [signalboxlaw36_FlowNever.j0] at H
      by_cases c9 : x30_5 = true
      · subst c9
        have H1 : ((signalboxlaw36_alive.f).bind fun t356 => (some t356)) = some r := by rw [if_pos rfl] at H; exact H
        clear H
        have H := H1
        clear H1
        replace H := Option.bind_eq_some_iff.mp H
        obtain ⟨t356, A100, H⟩ := H
        replace H : (some t356) = some r := H
        have A10 := Aside0.mk A100
        clear A100
        obtain rfl := Option.some.inj H
        go_wp2_with (first | ((with_reducible refine gate_callee (f := 28) rfl ?_); refine goesL_ (some 31) rfl rfl Try.func28 (by kernel_rfl) rfl #[] rfl (by (try simp only [List.map_toArray, List.map_cons, List.map_nil]); first | done | rfl | (simp only [List.length_drop, List.length_take]; rfl)) ?_; (with_reducible refine (signalboxlaw36_alive.calls  t356 _ A10.out).mono ?_); rintro e w11 ⟨rfl, hb⟩; refine ⟨_, rfl, ?_⟩; have n0_ := Aside0.mk (Kd.R_below (by (with_reducible repeat (first | apply Kd.R_alloc | apply Kd.R_drewN | apply Kd.R_drew)); exact HO_9.out) hb); have n1_ := Aside0.mk (below_step (by repeat (first | (with_reducible first | exact HB.out | apply below_alloc | apply pw_below_drewN | apply below_drew1) | exact HB.out)) hb); clear HO_9; clear HB; have HO_9 := n0_; have HB := n1_; clear n0_ n1_; (try clear hb); (try clear hb2); (try clear hk); (try clear hi)))
        go_ret
        exact ⟨by first | rfl | (simp [errW_none, errW_some] <;> rfl) | (simp [*, errW_none, errW_some] <;> rfl), by repeat (first | (with_reducible first | exact HB.out | apply below_alloc | apply pw_below_drewN | apply below_drew1) | exact HB.out)⟩
      · replace c9 := Bool.eq_false_iff.mpr c9
        subst c9
        have H1 : ((flow_Hear.f (a0.size : Int) a1 a2).bind fun bt357 => (signalboxlaw36_FlowNever.l0 kj5 a0 l3 t352 0 t352 (t352.length : Int) 0 bt357.1 bt357.2.1 bt357.2.2.1 bt357.2.2.2.1 bt357.2.2.2.2.1 bt357.2.2.2.2.2.1 bt357.2.2.2.2.2.2.1 bt357.2.2.2.2.2.2.2.1 bt357.2.2.2.2.2.2.2.2)) = some r := by rw [if_neg (show ¬ (false = true) by decide)] at H; exact H
        clear H
        have H := H1
        clear H1
        replace H := Option.bind_eq_some_iff.mp H
        obtain ⟨⟨t357, t358, t359, t360, t361, t362, t363, t364, t365⟩, A120, H⟩ := H
        replace H : (signalboxlaw36_FlowNever.l0 kj5 a0 l3 t352 0 t352 (t352.length : Int) 0 t357 t358 t359 t360 t361 t362 t363 t364 t365) = some r := H
        have A12 := Aside0.mk A120
        clear A120
        have H' := Aside0.mk H
        clear H
        go_wp2_with (first | ((with_reducible refine gate_callee (f := 32) rfl ?_); refine goesL_ (some 36) rfl rfl Try.func32 (by kernel_rfl) rfl #[.int .i64 (a0.size : Int), .int .i64 a1, .int .i64 a2] rfl (by (try simp only [List.map_toArray, List.map_cons, List.map_nil]); first | done | rfl | (simp only [List.length_drop, List.length_take]; rfl)) ?_; (with_reducible refine (flow_Hear.calls (a0.size : Int) a1 a2 t357 t358 t359 t360 t361 t362 t363 t364 t365 w _ ?side1 A12.out).mono ?_); (case side1 => repeat (first | (with_reducible first | exact HB.out | apply below_alloc | apply pw_below_drewN | apply below_drew1) | exact HB.out)); rintro e w13 ⟨g366, rfl, hi, hb, hb2⟩; refine ⟨_, rfl, ?_⟩; have n0_ := Aside0.mk (Kd.R_below (by (with_reducible repeat (first | apply Kd.R_alloc | apply Kd.R_drewN | apply Kd.R_drew)); exact HO_9.out) hb2); have n1_ := Aside0.mk (hb); have n2_ := Aside0.mk (hi); clear HO_9; clear HB; have HO_9 := n0_; have HB := n1_; have HI366 := n2_; clear n0_ n1_ n2_; (try clear hb); (try clear hb2); (try clear hk); (try clear hi); obtain ⟨Ao14, co14, eo14⟩ := Kd.R_slice HO_9.out; subst eo14))
        go_loopg [12, 39] kj5 (fun kq v12 v39 w' => ∃ (x12_2 : Int) (x39_2 : Int) (x367000_2 : Int) (x367001_2 : Int) (x367002_2 : Int) (x367003_2 : ByteArray) (x367004_2 : Int) (x367005_2 : Int) (x367006_2 : Int) (x367007_2 : ByteArray) (x367008_2 : Bool), v12 = .int .i64 x12_2 ∧ v39 = .int .i64 x39_2 ∧ Aside0 (signalboxlaw36_FlowNever.l0 kq a0 l3 t352 x12_2 t352 (t352.length : Int) x39_2 x367000_2 x367001_2 x367002_2 x367003_2 x367004_2 x367005_2 x367006_2 x367007_2 x367008_2 = some r) ∧ Aside0 (kq ≤ kj5) ∧ Aside0 (Kd.R Kd.string 9 w' w.heap.size (fun _ => True) (.slice Ao14 t352.length co14) t352) ∧ Aside0 (Kd.R Kd.string 9 w' w.heap.size (fun _ => True) (.slice Ao14 t352.length co14) t352) ∧ Aside0 (IsS99 w w' g366 x367000_2 x367001_2 x367002_2 x367003_2 x367004_2 x367005_2 x367006_2 x367007_2 x367008_2) ∧ Aside0 (Below w.heap.size w w'))
        case atStart => exact ⟨(0), (0), (t357), (t358), (t359), (t360), (t361), (t362), (t363), (t364), (t365), (by first | rfl | (simp; done) | (simp [*]; done)), (by first | rfl | (simp; done) | (simp [*]; done)), H', ⟨Nat.le_refl _⟩, ⟨by (with_reducible repeat (first | apply Kd.R_alloc | apply Kd.R_drewN | apply Kd.R_drew)); exact HO_9.out⟩, ⟨by (with_reducible repeat (first | apply Kd.R_alloc | apply Kd.R_drewN | apply Kd.R_drew)); exact HO_9.out⟩, ⟨by repeat (first | (with_reducible first | exact HI366.out | apply IsS99.alloc | apply IsS99.drewN | apply IsS99.drew | apply IsS99.set_0 | apply IsS99.set_1 | apply IsS99.set_2 | apply IsS99.set_3 | apply IsS99.set_4 | apply IsS99.set_5 | apply IsS99.set_6 | apply IsS99.set_7 | apply IsS99.set_8) | exact HI366.out)⟩, ⟨by repeat (first | (with_reducible first | exact HB.out | apply below_alloc | apply pw_below_drewN | apply below_drew1 | refine below_set ?_ (IsS99.ge HI366.out)) | exact HB.out)⟩⟩
        case round =>
          clear H'
          try clear c1
          try clear c2
          try clear p2
          try clear c3
          try clear c8
          try clear c8b0
          try clear c8b1
          try clear c9
          try clear c10
          try clear p2
          obtain ⟨x12_2, x39_2, x367000_2, x367001_2, x367002_2, x367003_2, x367004_2, x367005_2, x367006_2, x367007_2, x367008_2, rfl, rfl, HA, HK2, HO_9, HO_37, HI366, HB⟩ := hrel
          cases gk with
          | zero => exact absurd HA.out (by simp [signalboxlaw36_FlowNever.l0])
          | succ k2 =>
            have H := HA.out
            clear HA
            simp only [signalboxlaw36_FlowNever.l0] at H
            by_cases c15 : x39_2 < (t352.length : Int)
            · rw [if_pos c15] at H
              have c15b0 : decide (x39_2 < (t352.length : Int)) = true := decide_eq_true c15
              clear c15
              by_cases c16 : 0 ≤ x39_2
              · rw [if_pos c16] at H
                have c16b0 : decide (0 ≤ x39_2) = true := decide_eq_true c16
                clear c16
                by_cases c17 : x39_2 < (t352.length : Int)
                · rw [if_pos c17] at H
                  have c17b0 : decide (x39_2 < (t352.length : Int)) = true := decide_eq_true c17
                  clear c17
                  have HC18 := Aside0.mk H
                  clear H
                  have p380 : 0 ≤ (x39_2 : Int) := of_decide_eq_true (by first | (with_reducible assumption) | assumption)
                  have q380 : x39_2 < (t352.length : Int) := of_decide_eq_true (by first | (with_reducible assumption) | assumption)
                  obtain ⟨ad380, e380, hx380_0⟩ := Kd.at_string (Kd.R_reads' HO_37.out).2.2 x39_2 p380 q380
                  cases e380
                  replace p380 := eq_true p380
                  replace q380 := eq_true q380
                  go_upto_region 9 with (fail)
                  go_cut [53] (fun v53 wc => ∃ (kq : Nat) (x53_17 : Bool), v53 = .bool x53_17 ∧ Aside0 (signalboxlaw36_FlowNever.j2 kq a0 l3 t352 x12_2 x39_2 (rdOf ByteArray.empty t352 x39_2) t352 (t352.length : Int) x39_2 x53_17 x367000_2 x367001_2 x367002_2 x367003_2 x367004_2 x367005_2 x367006_2 x367007_2 x367008_2 = some r) ∧ Aside0 (kq ≤ k2) ∧ Aside0 (Kd.R Kd.string 9 wc w.heap.size (fun _ => True) (.slice (some ad380) t352.length co14) t352) ∧ Aside0 (Kd.R Kd.string 9 wc w.heap.size (fun _ => True) (.slice (some ad380) t352.length co14) t352) ∧ Aside0 (IsS99 w wc g366 x367000_2 x367001_2 x367002_2 x367003_2 x367004_2 x367005_2 x367006_2 x367007_2 x367008_2) ∧ Aside0 (Below w.heap.size w wc))
                  case first =>
                    have H := HC18.out
                    clear HC18
                    by_cases c19 : x39_2 < (l3.length : Int)
                    · rw [if_pos c19] at H
                      have c19b0 : decide (x39_2 < (l3.length : Int)) = true := decide_eq_true c19
                      clear c19
                      (first | rw [c19b0] | (simp only [i64_w, i32_w]; rw [c19b0]) | skip)
                      have H' := Aside0.mk H
                      clear H
                      have p381 : 0 ≤ (x39_2 : Int) := of_decide_eq_true (by first | (with_reducible assumption) | assumption)
                      have q381 : x39_2 < (l3.length : Int) := of_decide_eq_true (by first | (with_reducible assumption) | assumption)
                      obtain ⟨ad381, e381, hx381_0⟩ := Kd.at_bool HR3.out x39_2 p381 q381
                      cases e381
                      replace hx381_0 := (HB.out.cell (World.block_lt_of_cell? w _ hx381_0)).trans hx381_0
                      replace p381 := eq_true p381
                      replace q381 := eq_true q381
                      go_wp2
                      go_meet
                      case rel => exact ⟨_, (rdOf false l3 x39_2), (by first | rfl | (simp; done) | (simp [*]; done)), H', ⟨by have := HJ5.out; have := HK2.out; first | omega | exact Nat.le_refl _⟩, ⟨by (with_reducible repeat (first | apply Kd.R_alloc | apply Kd.R_drewN | apply Kd.R_drew)); exact HO_9.out⟩, ⟨by (with_reducible repeat (first | apply Kd.R_alloc | apply Kd.R_drewN | apply Kd.R_drew)); exact HO_37.out⟩, ⟨by repeat (first | (with_reducible first | exact HI366.out | apply IsS99.alloc | apply IsS99.drewN | apply IsS99.drew | apply IsS99.set_0 | apply IsS99.set_1 | apply IsS99.set_2 | apply IsS99.set_3 | apply IsS99.set_4 | apply IsS99.set_5 | apply IsS99.set_6 | apply IsS99.set_7 | apply IsS99.set_8) | exact HI366.out)⟩, ⟨by repeat (first | (with_reducible first | exact HB.out | apply below_alloc | apply pw_below_drewN | apply below_drew1 | refine below_set ?_ (IsS99.ge HI366.out)) | exact HB.out)⟩⟩
                    · rw [if_neg c19] at H
                      have c19b0 : decide (x39_2 < (l3.length : Int)) = false := decide_eq_false c19
                      clear c19
                      (first | rw [c19b0] | (simp only [i64_w, i32_w]; rw [c19b0]) | skip)
                      have H' := Aside0.mk H
                      clear H
                      go_wp2
                      go_meet
                      case rel => exact ⟨_, (false), (by first | rfl | (simp; done) | (simp [*]; done)), H', ⟨by have := HJ5.out; have := HK2.out; first | omega | exact Nat.le_refl _⟩, ⟨by (with_reducible repeat (first | apply Kd.R_alloc | apply Kd.R_drewN | apply Kd.R_drew)); exact HO_9.out⟩, ⟨by (with_reducible repeat (first | apply Kd.R_alloc | apply Kd.R_drewN | apply Kd.R_drew)); exact HO_37.out⟩, ⟨by repeat (first | (with_reducible first | exact HI366.out | apply IsS99.alloc | apply IsS99.drewN | apply IsS99.drew | apply IsS99.set_0 | apply IsS99.set_1 | apply IsS99.set_2 | apply IsS99.set_3 | apply IsS99.set_4 | apply IsS99.set_5 | apply IsS99.set_6 | apply IsS99.set_7 | apply IsS99.set_8) | exact HI366.out)⟩, ⟨by repeat (first | (with_reducible first | exact HB.out | apply below_alloc | apply pw_below_drewN | apply below_drew1 | refine below_set ?_ (IsS99.ge HI366.out)) | exact HB.out)⟩⟩
                  case rest =>
                    clear HC18
                    try clear c1
                    try clear c2
                    try clear p2
                    try clear c3
                    try clear p3
                    try clear q3
                    try clear hx3
                    try clear c8
                    try clear c8b0
                    try clear c8b1
                    try clear c9
                    try clear c10
                    try clear c15
                    try clear c15b0
                    try clear c16
                    try clear c16b0
                    try clear c17
                    try clear c17b0
                    try clear c19
                    try clear c19b0
                    try clear hx380_0
                    try clear hx381_0
                    try clear p2
                    try clear p380
                    try clear p381
                    try clear q380
                    try clear q381
                    obtain ⟨kq, x53_17, rfl, HA, HJ17, HO_9, HO_37, HI366, HB⟩ := hcut
                    cases kq with
                    | zero => exact absurd HA.out (by simp [signalboxlaw36_FlowNever.j2])
                    | succ kj17 =>
                      have H := HA.out
                      clear HA
                      simp only [signalboxlaw36_FlowNever.j2] at H
                      by_cases c20 : x53_17 = true
                      · subst c20
                        have H1 : (signalboxlaw36_FlowNever.l0 kj17 a0 l3 t352 (wrap64 (x12_2 + 1)) t352 (t352.length : Int) (wrap64 (x39_2 + 1)) x367000_2 x367001_2 x367002_2 x367003_2 x367004_2 x367005_2 x367006_2 x367007_2 x367008_2) = some r := by rw [if_pos rfl] at H; exact H
                        clear H
                        have H := H1
                        clear H1
                        have H' := Aside0.mk H
                        clear H
                        go_wp2
                        go_roundg kj17
                        case measure => have := HJ5.out; have := HK2.out; have := HJ17.out; omega
                        case rel => exact ⟨(wrap64 (x12_2 + 1)), (wrap64 (x39_2 + 1)), (x367000_2), (x367001_2), (x367002_2), (x367003_2), (x367004_2), (x367005_2), (x367006_2), (x367007_2), (x367008_2), (by first | rfl | (simp; done) | (simp [*]; done)), (by first | rfl | (simp; done) | (simp [*]; done)), H', ⟨by have := HJ5.out; have := HK2.out; have := HJ17.out; omega⟩, ⟨by (with_reducible repeat (first | apply Kd.R_alloc | apply Kd.R_drewN | apply Kd.R_drew)); exact HO_9.out⟩, ⟨by (with_reducible repeat (first | apply Kd.R_alloc | apply Kd.R_drewN | apply Kd.R_drew)); exact HO_37.out⟩, ⟨by repeat (first | (with_reducible first | exact HI366.out | apply IsS99.alloc | apply IsS99.drewN | apply IsS99.drew | apply IsS99.set_0 | apply IsS99.set_1 | apply IsS99.set_2 | apply IsS99.set_3 | apply IsS99.set_4 | apply IsS99.set_5 | apply IsS99.set_6 | apply IsS99.set_7 | apply IsS99.set_8) | exact HI366.out)⟩, ⟨by repeat (first | (with_reducible first | exact HB.out | apply below_alloc | apply pw_below_drewN | apply below_drew1 | refine below_set ?_ (IsS99.ge HI366.out)) | exact HB.out)⟩⟩
                      · replace c20 := Bool.eq_false_iff.mpr c20
                        subst c20
                        have H1 : ((flow_In_Take.f x367000_2 x367001_2 x367002_2 x367003_2 x367004_2 x367005_2 x367006_2 x367007_2 x367008_2 (rdOf ByteArray.empty t352 x39_2)).bind fun bt382 => ((flow_In_Msg.f bt382.2.2.1 bt382.2.2.2.1 bt382.2.2.2.2.1 bt382.2.2.2.2.2.1 bt382.2.2.2.2.2.2.1 bt382.2.2.2.2.2.2.2.1 bt382.2.2.2.2.2.2.2.2.1 bt382.2.2.2.2.2.2.2.2.2.1 bt382.2.2.2.2.2.2.2.2.2.2).bind fun bt393 => (if bt393.2.1 = true then (if bt393.1.toList = a0.toList then (if x12_2 > 0 then (some false) else (if x39_2 < (wrap64 ((t352.length : Int) - 1)) then (some false) else (signalboxlaw36_FlowNever.l0 kj17 a0 l3 t352 x12_2 t352 (t352.length : Int) (wrap64 (x39_2 + 1)) bt393.2.2.1 bt393.2.2.2.1 bt393.2.2.2.2.1 bt393.2.2.2.2.2.1 bt393.2.2.2.2.2.2.1 bt393.2.2.2.2.2.2.2.1 bt393.2.2.2.2.2.2.2.2.1 bt393.2.2.2.2.2.2.2.2.2.1 bt393.2.2.2.2.2.2.2.2.2.2))) else (some false)) else (signalboxlaw36_FlowNever.l0 kj17 a0 l3 t352 x12_2 t352 (t352.length : Int) (wrap64 (x39_2 + 1)) bt393.2.2.1 bt393.2.2.2.1 bt393.2.2.2.2.1 bt393.2.2.2.2.2.1 bt393.2.2.2.2.2.2.1 bt393.2.2.2.2.2.2.2.1 bt393.2.2.2.2.2.2.2.2.1 bt393.2.2.2.2.2.2.2.2.2.1 bt393.2.2.2.2.2.2.2.2.2.2)))) = some r := by rw [if_neg (show ¬ (false = true) by decide)] at H; exact H
                        clear H
                        have H := H1
                        clear H1
                        replace H := Option.bind_eq_some_iff.mp H
                        obtain ⟨⟨t382, t383, t384, t385, t386, t387, t388, t389, t390, t391, t392⟩, A210, H⟩ := H
                        replace H : ((flow_In_Msg.f t384 t385 t386 t387 t388 t389 t390 t391 t392).bind fun bt393 => (if bt393.2.1 = true then (if bt393.1.toList = a0.toList then (if x12_2 > 0 then (some false) else (if x39_2 < (wrap64 ((t352.length : Int) - 1)) then (some false) else (signalboxlaw36_FlowNever.l0 kj17 a0 l3 t352 x12_2 t352 (t352.length : Int) (wrap64 (x39_2 + 1)) bt393.2.2.1 bt393.2.2.2.1 bt393.2.2.2.2.1 bt393.2.2.2.2.2.1 bt393.2.2.2.2.2.2.1 bt393.2.2.2.2.2.2.2.1 bt393.2.2.2.2.2.2.2.2.1 bt393.2.2.2.2.2.2.2.2.2.1 bt393.2.2.2.2.2.2.2.2.2.2))) else (some false)) else (signalboxlaw36_FlowNever.l0 kj17 a0 l3 t352 x12_2 t352 (t352.length : Int) (wrap64 (x39_2 + 1)) bt393.2.2.1 bt393.2.2.2.1 bt393.2.2.2.2.1 bt393.2.2.2.2.2.1 bt393.2.2.2.2.2.2.1 bt393.2.2.2.2.2.2.2.1 bt393.2.2.2.2.2.2.2.2.1 bt393.2.2.2.2.2.2.2.2.2.1 bt393.2.2.2.2.2.2.2.2.2.2))) = some r := H
                        have A21 := Aside0.mk A210
                        clear A210
                        replace H := Option.bind_eq_some_iff.mp H
                        obtain ⟨⟨t393, t394, t395, t396, t397, t398, t399, t400, t401, t402, t403⟩, A220, H⟩ := H
                        replace H : (if t394 = true then (if t393.toList = a0.toList then (if x12_2 > 0 then (some false) else (if x39_2 < (wrap64 ((t352.length : Int) - 1)) then (some false) else (signalboxlaw36_FlowNever.l0 kj17 a0 l3 t352 x12_2 t352 (t352.length : Int) (wrap64 (x39_2 + 1)) t395 t396 t397 t398 t399 t400 t401 t402 t403))) else (some false)) else (signalboxlaw36_FlowNever.l0 kj17 a0 l3 t352 x12_2 t352 (t352.length : Int) (wrap64 (x39_2 + 1)) t395 t396 t397 t398 t399 t400 t401 t402 t403)) = some r := H
                        have A22 := Aside0.mk A220
                        clear A220
                        by_cases c23 : t394 = true
                        · subst c23
                          have H1 : (if t393.toList = a0.toList then (if x12_2 > 0 then (some false) else (if x39_2 < (wrap64 ((t352.length : Int) - 1)) then (some false) else (signalboxlaw36_FlowNever.l0 kj17 a0 l3 t352 x12_2 t352 (t352.length : Int) (wrap64 (x39_2 + 1)) t395 t396 t397 t398 t399 t400 t401 t402 t403))) else (some false)) = some r := by rw [if_pos rfl] at H; exact H
                          clear H
                          have H := H1
                          clear H1
                          by_cases c24 : t393.toList = a0.toList
                          · rw [if_pos c24] at H
                            have c24b0 : (t393.toList == a0.toList) = true := beq_iff_eq.mpr c24
                            have c24b1 : (t393.toList != a0.toList) = false := bne_eq_false_iff_eq.mpr c24
                            clear c24
                            by_cases c25 : x12_2 > 0
                            · rw [if_pos c25] at H
                              have c25b0 : decide (0 < x12_2) = true := decide_eq_true c25
                              clear c25
                              obtain rfl := Option.some.inj H
                              go_wp2_with (first | ((with_reducible refine gate_callee (f := 33) rfl ?_); refine goesL_ (some 58) rfl rfl Try.func33 (by kernel_rfl) rfl #[.pointer (some ⟨g366, 0, none⟩), .string (rdOf ByteArray.empty t352 x39_2)] rfl (by (try simp only [List.map_toArray, List.map_cons, List.map_nil]); first | done | rfl | (simp only [List.length_drop, List.length_take]; rfl)) ?_; (with_reducible refine (flow_In_Take.calls g366 x367000_2 x367001_2 x367002_2 x367003_2 x367004_2 x367005_2 x367006_2 x367007_2 x367008_2 (rdOf ByteArray.empty t352 x39_2) t382 t383 t384 t385 t386 t387 t388 t389 t390 t391 t392 w _ ?side1 ?side2 A21.out).mono ?_); (case side1 => repeat (first | (with_reducible first | exact HI366.out | apply IsS99.alloc | apply IsS99.drewN | apply IsS99.drew | apply IsS99.set_0 | apply IsS99.set_1 | apply IsS99.set_2 | apply IsS99.set_3 | apply IsS99.set_4 | apply IsS99.set_5 | apply IsS99.set_6 | apply IsS99.set_7 | apply IsS99.set_8) | exact HI366.out)); (case side2 => repeat (first | (with_reducible first | exact HB.out | apply below_alloc | apply pw_below_drewN | apply below_drew1 | refine below_set ?_ (IsS99.ge HI366.out)) | exact HB.out)); rintro e w26 ⟨rfl, hi, hb, hk⟩; refine ⟨_, rfl, ?_⟩; have n0_ := Aside0.mk (Kd.R_mono (Kd.R_keep (IsS99.apart (show IsS99 w _ g366 x367000_2 x367001_2 x367002_2 x367003_2 x367004_2 x367005_2 x367006_2 x367007_2 x367008_2 from by repeat (first | (with_reducible first | exact HI366.out | apply IsS99.alloc | apply IsS99.drewN | apply IsS99.drew | apply IsS99.set_0 | apply IsS99.set_1 | apply IsS99.set_2 | apply IsS99.set_3 | apply IsS99.set_4 | apply IsS99.set_5 | apply IsS99.set_6 | apply IsS99.set_7 | apply IsS99.set_8) | exact HI366.out)) (by (with_reducible repeat (first | apply Kd.R_alloc | apply Kd.R_drewN | apply Kd.R_drew)); exact HO_9.out) (by decide)) hk (fun _ h => h.2)) (fun _ h => h.1)); have n1_ := Aside0.mk (Kd.R_mono (Kd.R_keep (IsS99.apart (show IsS99 w _ g366 x367000_2 x367001_2 x367002_2 x367003_2 x367004_2 x367005_2 x367006_2 x367007_2 x367008_2 from by repeat (first | (with_reducible first | exact HI366.out | apply IsS99.alloc | apply IsS99.drewN | apply IsS99.drew | apply IsS99.set_0 | apply IsS99.set_1 | apply IsS99.set_2 | apply IsS99.set_3 | apply IsS99.set_4 | apply IsS99.set_5 | apply IsS99.set_6 | apply IsS99.set_7 | apply IsS99.set_8) | exact HI366.out)) (by (with_reducible repeat (first | apply Kd.R_alloc | apply Kd.R_drewN | apply Kd.R_drew)); exact HO_37.out) (by decide)) hk (fun _ h => h.2)) (fun _ h => h.1)); have n2_ := Aside0.mk (hb); have n3_ := Aside0.mk (hi); clear HO_9; clear HO_37; clear HB; clear HI366; have HO_9 := n0_; have HO_37 := n1_; have HB := n2_; have HI366 := n3_; clear n0_ n1_ n2_ n3_; (try clear hb); (try clear hb2); (try clear hk); (try clear hi)) | ((with_reducible refine gate_callee (f := 34) rfl ?_); refine goesL_ (some 61) rfl rfl Try.func34 (by kernel_rfl) rfl #[.pointer (some ⟨g366, 0, none⟩)] rfl (by (try simp only [List.map_toArray, List.map_cons, List.map_nil]); first | done | rfl | (simp only [List.length_drop, List.length_take]; rfl)) ?_; (with_reducible refine (flow_In_Msg.calls g366 t384 t385 t386 t387 t388 t389 t390 t391 t392 t393 true t395 t396 t397 t398 t399 t400 t401 t402 t403 w _ ?side1 ?side2 A22.out).mono ?_); (case side1 => repeat (first | (with_reducible first | exact HI366.out | apply IsS99.alloc | apply IsS99.drewN | apply IsS99.drew | apply IsS99.set_0 | apply IsS99.set_1 | apply IsS99.set_2 | apply IsS99.set_3 | apply IsS99.set_4 | apply IsS99.set_5 | apply IsS99.set_6 | apply IsS99.set_7 | apply IsS99.set_8) | exact HI366.out)); (case side2 => repeat (first | (with_reducible first | exact HB.out | apply below_alloc | apply pw_below_drewN | apply below_drew1 | refine below_set ?_ (IsS99.ge HI366.out)) | exact HB.out)); rintro e w27 ⟨rfl, hi, hb, hk⟩; refine ⟨_, rfl, ?_⟩; have n0_ := Aside0.mk (Kd.R_mono (Kd.R_keep (IsS99.apart (show IsS99 w _ g366 t384 t385 t386 t387 t388 t389 t390 t391 t392 from by repeat (first | (with_reducible first | exact HI366.out | apply IsS99.alloc | apply IsS99.drewN | apply IsS99.drew | apply IsS99.set_0 | apply IsS99.set_1 | apply IsS99.set_2 | apply IsS99.set_3 | apply IsS99.set_4 | apply IsS99.set_5 | apply IsS99.set_6 | apply IsS99.set_7 | apply IsS99.set_8) | exact HI366.out)) (by (with_reducible repeat (first | apply Kd.R_alloc | apply Kd.R_drewN | apply Kd.R_drew)); exact HO_9.out) (by decide)) hk (fun _ h => h.2)) (fun _ h => h.1)); have n1_ := Aside0.mk (Kd.R_mono (Kd.R_keep (IsS99.apart (show IsS99 w _ g366 t384 t385 t386 t387 t388 t389 t390 t391 t392 from by repeat (first | (with_reducible first | exact HI366.out | apply IsS99.alloc | apply IsS99.drewN | apply IsS99.drew | apply IsS99.set_0 | apply IsS99.set_1 | apply IsS99.set_2 | apply IsS99.set_3 | apply IsS99.set_4 | apply IsS99.set_5 | apply IsS99.set_6 | apply IsS99.set_7 | apply IsS99.set_8) | exact HI366.out)) (by (with_reducible repeat (first | apply Kd.R_alloc | apply Kd.R_drewN | apply Kd.R_drew)); exact HO_37.out) (by decide)) hk (fun _ h => h.2)) (fun _ h => h.1)); have n2_ := Aside0.mk (hb); have n3_ := Aside0.mk (hi); clear HO_9; clear HO_37; clear HB; clear HI366; have HO_9 := n0_; have HO_37 := n1_; have HB := n2_; have HI366 := n3_; clear n0_ n1_ n2_ n3_; (try clear hb); (try clear hb2); (try clear hk); (try clear hi)))
                              go_ret
                              exact ⟨by first | rfl | (simp [errW_none, errW_some] <;> rfl) | (simp [*, errW_none, errW_some] <;> rfl), by repeat (first | (with_reducible first | exact HB.out | apply below_alloc | apply pw_below_drewN | apply below_drew1 | refine below_set ?_ (IsS99.ge HI366.out)) | exact HB.out)⟩
                            · rw [if_neg c25] at H
                              have c25b0 : decide (0 < x12_2) = false := decide_eq_false c25
                              clear c25
                              by_cases c28 : x39_2 < (wrap64 ((t352.length : Int) - 1))
                              · rw [if_pos c28] at H
                                have c28b0 : decide (x39_2 < (wrap64 ((t352.length : Int) - 1))) = true := decide_eq_true c28
                                clear c28
                                obtain rfl := Option.some.inj H
                                go_wp2_with (first | ((with_reducible refine gate_callee (f := 33) rfl ?_); refine goesL_ (some 58) rfl rfl Try.func33 (by kernel_rfl) rfl #[.pointer (some ⟨g366, 0, none⟩), .string (rdOf ByteArray.empty t352 x39_2)] rfl (by (try simp only [List.map_toArray, List.map_cons, List.map_nil]); first | done | rfl | (simp only [List.length_drop, List.length_take]; rfl)) ?_; (with_reducible refine (flow_In_Take.calls g366 x367000_2 x367001_2 x367002_2 x367003_2 x367004_2 x367005_2 x367006_2 x367007_2 x367008_2 (rdOf ByteArray.empty t352 x39_2) t382 t383 t384 t385 t386 t387 t388 t389 t390 t391 t392 w _ ?side1 ?side2 A21.out).mono ?_); (case side1 => repeat (first | (with_reducible first | exact HI366.out | apply IsS99.alloc | apply IsS99.drewN | apply IsS99.drew | apply IsS99.set_0 | apply IsS99.set_1 | apply IsS99.set_2 | apply IsS99.set_3 | apply IsS99.set_4 | apply IsS99.set_5 | apply IsS99.set_6 | apply IsS99.set_7 | apply IsS99.set_8) | exact HI366.out)); (case side2 => repeat (first | (with_reducible first | exact HB.out | apply below_alloc | apply pw_below_drewN | apply below_drew1 | refine below_set ?_ (IsS99.ge HI366.out)) | exact HB.out)); rintro e w29 ⟨rfl, hi, hb, hk⟩; refine ⟨_, rfl, ?_⟩; have n0_ := Aside0.mk (Kd.R_mono (Kd.R_keep (IsS99.apart (show IsS99 w _ g366 x367000_2 x367001_2 x367002_2 x367003_2 x367004_2 x367005_2 x367006_2 x367007_2 x367008_2 from by repeat (first | (with_reducible first | exact HI366.out | apply IsS99.alloc | apply IsS99.drewN | apply IsS99.drew | apply IsS99.set_0 | apply IsS99.set_1 | apply IsS99.set_2 | apply IsS99.set_3 | apply IsS99.set_4 | apply IsS99.set_5 | apply IsS99.set_6 | apply IsS99.set_7 | apply IsS99.set_8) | exact HI366.out)) (by (with_reducible repeat (first | apply Kd.R_alloc | apply Kd.R_drewN | apply Kd.R_drew)); exact HO_9.out) (by decide)) hk (fun _ h => h.2)) (fun _ h => h.1)); have n1_ := Aside0.mk (Kd.R_mono (Kd.R_keep (IsS99.apart (show IsS99 w _ g366 x367000_2 x367001_2 x367002_2 x367003_2 x367004_2 x367005_2 x367006_2 x367007_2 x367008_2 from by repeat (first | (with_reducible first | exact HI366.out | apply IsS99.alloc | apply IsS99.drewN | apply IsS99.drew | apply IsS99.set_0 | apply IsS99.set_1 | apply IsS99.set_2 | apply IsS99.set_3 | apply IsS99.set_4 | apply IsS99.set_5 | apply IsS99.set_6 | apply IsS99.set_7 | apply IsS99.set_8) | exact HI366.out)) (by (with_reducible repeat (first | apply Kd.R_alloc | apply Kd.R_drewN | apply Kd.R_drew)); exact HO_37.out) (by decide)) hk (fun _ h => h.2)) (fun _ h => h.1)); have n2_ := Aside0.mk (hb); have n3_ := Aside0.mk (hi); clear HO_9; clear HO_37; clear HB; clear HI366; have HO_9 := n0_; have HO_37 := n1_; have HB := n2_; have HI366 := n3_; clear n0_ n1_ n2_ n3_; (try clear hb); (try clear hb2); (try clear hk); (try clear hi)) | ((with_reducible refine gate_callee (f := 34) rfl ?_); refine goesL_ (some 61) rfl rfl Try.func34 (by kernel_rfl) rfl #[.pointer (some ⟨g366, 0, none⟩)] rfl (by (try simp only [List.map_toArray, List.map_cons, List.map_nil]); first | done | rfl | (simp only [List.length_drop, List.length_take]; rfl)) ?_; (with_reducible refine (flow_In_Msg.calls g366 t384 t385 t386 t387 t388 t389 t390 t391 t392 t393 true t395 t396 t397 t398 t399 t400 t401 t402 t403 w _ ?side1 ?side2 A22.out).mono ?_); (case side1 => repeat (first | (with_reducible first | exact HI366.out | apply IsS99.alloc | apply IsS99.drewN | apply IsS99.drew | apply IsS99.set_0 | apply IsS99.set_1 | apply IsS99.set_2 | apply IsS99.set_3 | apply IsS99.set_4 | apply IsS99.set_5 | apply IsS99.set_6 | apply IsS99.set_7 | apply IsS99.set_8) | exact HI366.out)); (case side2 => repeat (first | (with_reducible first | exact HB.out | apply below_alloc | apply pw_below_drewN | apply below_drew1 | refine below_set ?_ (IsS99.ge HI366.out)) | exact HB.out)); rintro e w30 ⟨rfl, hi, hb, hk⟩; refine ⟨_, rfl, ?_⟩; have n0_ := Aside0.mk (Kd.R_mono (Kd.R_keep (IsS99.apart (show IsS99 w _ g366 t384 t385 t386 t387 t388 t389 t390 t391 t392 from by repeat (first | (with_reducible first | exact HI366.out | apply IsS99.alloc | apply IsS99.drewN | apply IsS99.drew | apply IsS99.set_0 | apply IsS99.set_1 | apply IsS99.set_2 | apply IsS99.set_3 | apply IsS99.set_4 | apply IsS99.set_5 | apply IsS99.set_6 | apply IsS99.set_7 | apply IsS99.set_8) | exact HI366.out)) (by (with_reducible repeat (first | apply Kd.R_alloc | apply Kd.R_drewN | apply Kd.R_drew)); exact HO_9.out) (by decide)) hk (fun _ h => h.2)) (fun _ h => h.1)); have n1_ := Aside0.mk (Kd.R_mono (Kd.R_keep (IsS99.apart (show IsS99 w _ g366 t384 t385 t386 t387 t388 t389 t390 t391 t392 from by repeat (first | (with_reducible first | exact HI366.out | apply IsS99.alloc | apply IsS99.drewN | apply IsS99.drew | apply IsS99.set_0 | apply IsS99.set_1 | apply IsS99.set_2 | apply IsS99.set_3 | apply IsS99.set_4 | apply IsS99.set_5 | apply IsS99.set_6 | apply IsS99.set_7 | apply IsS99.set_8) | exact HI366.out)) (by (with_reducible repeat (first | apply Kd.R_alloc | apply Kd.R_drewN | apply Kd.R_drew)); exact HO_37.out) (by decide)) hk (fun _ h => h.2)) (fun _ h => h.1)); have n2_ := Aside0.mk (hb); have n3_ := Aside0.mk (hi); clear HO_9; clear HO_37; clear HB; clear HI366; have HO_9 := n0_; have HO_37 := n1_; have HB := n2_; have HI366 := n3_; clear n0_ n1_ n2_ n3_; (try clear hb); (try clear hb2); (try clear hk); (try clear hi)))
                                go_ret
                                exact ⟨by first | rfl | (simp [errW_none, errW_some] <;> rfl) | (simp [*, errW_none, errW_some] <;> rfl), by repeat (first | (with_reducible first | exact HB.out | apply below_alloc | apply pw_below_drewN | apply below_drew1 | refine below_set ?_ (IsS99.ge HI366.out)) | exact HB.out)⟩
                              · rw [if_neg c28] at H
                                have c28b0 : decide (x39_2 < (wrap64 ((t352.length : Int) - 1))) = false := decide_eq_false c28
                                clear c28
                                have H' := Aside0.mk H
                                clear H
                                go_wp2_with (first | ((with_reducible refine gate_callee (f := 33) rfl ?_); refine goesL_ (some 58) rfl rfl Try.func33 (by kernel_rfl) rfl #[.pointer (some ⟨g366, 0, none⟩), .string (rdOf ByteArray.empty t352 x39_2)] rfl (by (try simp only [List.map_toArray, List.map_cons, List.map_nil]); first | done | rfl | (simp only [List.length_drop, List.length_take]; rfl)) ?_; (with_reducible refine (flow_In_Take.calls g366 x367000_2 x367001_2 x367002_2 x367003_2 x367004_2 x367005_2 x367006_2 x367007_2 x367008_2 (rdOf ByteArray.empty t352 x39_2) t382 t383 t384 t385 t386 t387 t388 t389 t390 t391 t392 w _ ?side1 ?side2 A21.out).mono ?_); (case side1 => repeat (first | (with_reducible first | exact HI366.out | apply IsS99.alloc | apply IsS99.drewN | apply IsS99.drew | apply IsS99.set_0 | apply IsS99.set_1 | apply IsS99.set_2 | apply IsS99.set_3 | apply IsS99.set_4 | apply IsS99.set_5 | apply IsS99.set_6 | apply IsS99.set_7 | apply IsS99.set_8) | exact HI366.out)); (case side2 => repeat (first | (with_reducible first | exact HB.out | apply below_alloc | apply pw_below_drewN | apply below_drew1 | refine below_set ?_ (IsS99.ge HI366.out)) | exact HB.out)); rintro e w31 ⟨rfl, hi, hb, hk⟩; refine ⟨_, rfl, ?_⟩; have n0_ := Aside0.mk (Kd.R_mono (Kd.R_keep (IsS99.apart (show IsS99 w _ g366 x367000_2 x367001_2 x367002_2 x367003_2 x367004_2 x367005_2 x367006_2 x367007_2 x367008_2 from by repeat (first | (with_reducible first | exact HI366.out | apply IsS99.alloc | apply IsS99.drewN | apply IsS99.drew | apply IsS99.set_0 | apply IsS99.set_1 | apply IsS99.set_2 | apply IsS99.set_3 | apply IsS99.set_4 | apply IsS99.set_5 | apply IsS99.set_6 | apply IsS99.set_7 | apply IsS99.set_8) | exact HI366.out)) (by (with_reducible repeat (first | apply Kd.R_alloc | apply Kd.R_drewN | apply Kd.R_drew)); exact HO_9.out) (by decide)) hk (fun _ h => h.2)) (fun _ h => h.1)); have n1_ := Aside0.mk (Kd.R_mono (Kd.R_keep (IsS99.apart (show IsS99 w _ g366 x367000_2 x367001_2 x367002_2 x367003_2 x367004_2 x367005_2 x367006_2 x367007_2 x367008_2 from by repeat (first | (with_reducible first | exact HI366.out | apply IsS99.alloc | apply IsS99.drewN | apply IsS99.drew | apply IsS99.set_0 | apply IsS99.set_1 | apply IsS99.set_2 | apply IsS99.set_3 | apply IsS99.set_4 | apply IsS99.set_5 | apply IsS99.set_6 | apply IsS99.set_7 | apply IsS99.set_8) | exact HI366.out)) (by (with_reducible repeat (first | apply Kd.R_alloc | apply Kd.R_drewN | apply Kd.R_drew)); exact HO_37.out) (by decide)) hk (fun _ h => h.2)) (fun _ h => h.1)); have n2_ := Aside0.mk (hb); have n3_ := Aside0.mk (hi); clear HO_9; clear HO_37; clear HB; clear HI366; have HO_9 := n0_; have HO_37 := n1_; have HB := n2_; have HI366 := n3_; clear n0_ n1_ n2_ n3_; (try clear hb); (try clear hb2); (try clear hk); (try clear hi)) | ((with_reducible refine gate_callee (f := 34) rfl ?_); refine goesL_ (some 61) rfl rfl Try.func34 (by kernel_rfl) rfl #[.pointer (some ⟨g366, 0, none⟩)] rfl (by (try simp only [List.map_toArray, List.map_cons, List.map_nil]); first | done | rfl | (simp only [List.length_drop, List.length_take]; rfl)) ?_; (with_reducible refine (flow_In_Msg.calls g366 t384 t385 t386 t387 t388 t389 t390 t391 t392 t393 true t395 t396 t397 t398 t399 t400 t401 t402 t403 w _ ?side1 ?side2 A22.out).mono ?_); (case side1 => repeat (first | (with_reducible first | exact HI366.out | apply IsS99.alloc | apply IsS99.drewN | apply IsS99.drew | apply IsS99.set_0 | apply IsS99.set_1 | apply IsS99.set_2 | apply IsS99.set_3 | apply IsS99.set_4 | apply IsS99.set_5 | apply IsS99.set_6 | apply IsS99.set_7 | apply IsS99.set_8) | exact HI366.out)); (case side2 => repeat (first | (with_reducible first | exact HB.out | apply below_alloc | apply pw_below_drewN | apply below_drew1 | refine below_set ?_ (IsS99.ge HI366.out)) | exact HB.out)); rintro e w32 ⟨rfl, hi, hb, hk⟩; refine ⟨_, rfl, ?_⟩; have n0_ := Aside0.mk (Kd.R_mono (Kd.R_keep (IsS99.apart (show IsS99 w _ g366 t384 t385 t386 t387 t388 t389 t390 t391 t392 from by repeat (first | (with_reducible first | exact HI366.out | apply IsS99.alloc | apply IsS99.drewN | apply IsS99.drew | apply IsS99.set_0 | apply IsS99.set_1 | apply IsS99.set_2 | apply IsS99.set_3 | apply IsS99.set_4 | apply IsS99.set_5 | apply IsS99.set_6 | apply IsS99.set_7 | apply IsS99.set_8) | exact HI366.out)) (by (with_reducible repeat (first | apply Kd.R_alloc | apply Kd.R_drewN | apply Kd.R_drew)); exact HO_9.out) (by decide)) hk (fun _ h => h.2)) (fun _ h => h.1)); have n1_ := Aside0.mk (Kd.R_mono (Kd.R_keep (IsS99.apart (show IsS99 w _ g366 t384 t385 t386 t387 t388 t389 t390 t391 t392 from by repeat (first | (with_reducible first | exact HI366.out | apply IsS99.alloc | apply IsS99.drewN | apply IsS99.drew | apply IsS99.set_0 | apply IsS99.set_1 | apply IsS99.set_2 | apply IsS99.set_3 | apply IsS99.set_4 | apply IsS99.set_5 | apply IsS99.set_6 | apply IsS99.set_7 | apply IsS99.set_8) | exact HI366.out)) (by (with_reducible repeat (first | apply Kd.R_alloc | apply Kd.R_drewN | apply Kd.R_drew)); exact HO_37.out) (by decide)) hk (fun _ h => h.2)) (fun _ h => h.1)); have n2_ := Aside0.mk (hb); have n3_ := Aside0.mk (hi); clear HO_9; clear HO_37; clear HB; clear HI366; have HO_9 := n0_; have HO_37 := n1_; have HB := n2_; have HI366 := n3_; clear n0_ n1_ n2_ n3_; (try clear hb); (try clear hb2); (try clear hk); (try clear hi)))
                                go_roundg kj17
                                case measure => have := HJ5.out; have := HK2.out; have := HJ17.out; omega
                                case rel => exact ⟨(x12_2), (wrap64 (x39_2 + 1)), (t395), (t396), (t397), (t398), (t399), (t400), (t401), (t402), (t403), (by first | rfl | (simp; done) | (simp [*]; done)), (by first | rfl | (simp; done) | (simp [*]; done)), H', ⟨by have := HJ5.out; have := HK2.out; have := HJ17.out; omega⟩, ⟨by (with_reducible repeat (first | apply Kd.R_alloc | apply Kd.R_drewN | apply Kd.R_drew)); exact HO_9.out⟩, ⟨by (with_reducible repeat (first | apply Kd.R_alloc | apply Kd.R_drewN | apply Kd.R_drew)); exact HO_37.out⟩, ⟨by repeat (first | (with_reducible first | exact HI366.out | apply IsS99.alloc | apply IsS99.drewN | apply IsS99.drew | apply IsS99.set_0 | apply IsS99.set_1 | apply IsS99.set_2 | apply IsS99.set_3 | apply IsS99.set_4 | apply IsS99.set_5 | apply IsS99.set_6 | apply IsS99.set_7 | apply IsS99.set_8) | exact HI366.out)⟩, ⟨by repeat (first | (with_reducible first | exact HB.out | apply below_alloc | apply pw_below_drewN | apply below_drew1 | refine below_set ?_ (IsS99.ge HI366.out)) | exact HB.out)⟩⟩
                          · rw [if_neg c24] at H
                            have c24b0 : (t393.toList == a0.toList) = false := beq_eq_false_iff_ne.mpr c24
                            have c24b1 : (t393.toList != a0.toList) = true := bne_iff_ne.mpr c24
                            obtain rfl := Option.some.inj H
                            go_wp2_with (first | ((with_reducible refine gate_callee (f := 33) rfl ?_); refine goesL_ (some 58) rfl rfl Try.func33 (by kernel_rfl) rfl #[.pointer (some ⟨g366, 0, none⟩), .string (rdOf ByteArray.empty t352 x39_2)] rfl (by (try simp only [List.map_toArray, List.map_cons, List.map_nil]); first | done | rfl | (simp only [List.length_drop, List.length_take]; rfl)) ?_; (with_reducible refine (flow_In_Take.calls g366 x367000_2 x367001_2 x367002_2 x367003_2 x367004_2 x367005_2 x367006_2 x367007_2 x367008_2 (rdOf ByteArray.empty t352 x39_2) t382 t383 t384 t385 t386 t387 t388 t389 t390 t391 t392 w _ ?side1 ?side2 A21.out).mono ?_); (case side1 => repeat (first | (with_reducible first | exact HI366.out | apply IsS99.alloc | apply IsS99.drewN | apply IsS99.drew | apply IsS99.set_0 | apply IsS99.set_1 | apply IsS99.set_2 | apply IsS99.set_3 | apply IsS99.set_4 | apply IsS99.set_5 | apply IsS99.set_6 | apply IsS99.set_7 | apply IsS99.set_8) | exact HI366.out)); (case side2 => repeat (first | (with_reducible first | exact HB.out | apply below_alloc | apply pw_below_drewN | apply below_drew1 | refine below_set ?_ (IsS99.ge HI366.out)) | exact HB.out)); rintro e w33 ⟨rfl, hi, hb, hk⟩; refine ⟨_, rfl, ?_⟩; have n0_ := Aside0.mk (Kd.R_mono (Kd.R_keep (IsS99.apart (show IsS99 w _ g366 x367000_2 x367001_2 x367002_2 x367003_2 x367004_2 x367005_2 x367006_2 x367007_2 x367008_2 from by repeat (first | (with_reducible first | exact HI366.out | apply IsS99.alloc | apply IsS99.drewN | apply IsS99.drew | apply IsS99.set_0 | apply IsS99.set_1 | apply IsS99.set_2 | apply IsS99.set_3 | apply IsS99.set_4 | apply IsS99.set_5 | apply IsS99.set_6 | apply IsS99.set_7 | apply IsS99.set_8) | exact HI366.out)) (by (with_reducible repeat (first | apply Kd.R_alloc | apply Kd.R_drewN | apply Kd.R_drew)); exact HO_9.out) (by decide)) hk (fun _ h => h.2)) (fun _ h => h.1)); have n1_ := Aside0.mk (Kd.R_mono (Kd.R_keep (IsS99.apart (show IsS99 w _ g366 x367000_2 x367001_2 x367002_2 x367003_2 x367004_2 x367005_2 x367006_2 x367007_2 x367008_2 from by repeat (first | (with_reducible first | exact HI366.out | apply IsS99.alloc | apply IsS99.drewN | apply IsS99.drew | apply IsS99.set_0 | apply IsS99.set_1 | apply IsS99.set_2 | apply IsS99.set_3 | apply IsS99.set_4 | apply IsS99.set_5 | apply IsS99.set_6 | apply IsS99.set_7 | apply IsS99.set_8) | exact HI366.out)) (by (with_reducible repeat (first | apply Kd.R_alloc | apply Kd.R_drewN | apply Kd.R_drew)); exact HO_37.out) (by decide)) hk (fun _ h => h.2)) (fun _ h => h.1)); have n2_ := Aside0.mk (hb); have n3_ := Aside0.mk (hi); clear HO_9; clear HO_37; clear HB; clear HI366; have HO_9 := n0_; have HO_37 := n1_; have HB := n2_; have HI366 := n3_; clear n0_ n1_ n2_ n3_; (try clear hb); (try clear hb2); (try clear hk); (try clear hi)) | ((with_reducible refine gate_callee (f := 34) rfl ?_); refine goesL_ (some 61) rfl rfl Try.func34 (by kernel_rfl) rfl #[.pointer (some ⟨g366, 0, none⟩)] rfl (by (try simp only [List.map_toArray, List.map_cons, List.map_nil]); first | done | rfl | (simp only [List.length_drop, List.length_take]; rfl)) ?_; (with_reducible refine (flow_In_Msg.calls g366 t384 t385 t386 t387 t388 t389 t390 t391 t392 t393 true t395 t396 t397 t398 t399 t400 t401 t402 t403 w _ ?side1 ?side2 A22.out).mono ?_); (case side1 => repeat (first | (with_reducible first | exact HI366.out | apply IsS99.alloc | apply IsS99.drewN | apply IsS99.drew | apply IsS99.set_0 | apply IsS99.set_1 | apply IsS99.set_2 | apply IsS99.set_3 | apply IsS99.set_4 | apply IsS99.set_5 | apply IsS99.set_6 | apply IsS99.set_7 | apply IsS99.set_8) | exact HI366.out)); (case side2 => repeat (first | (with_reducible first | exact HB.out | apply below_alloc | apply pw_below_drewN | apply below_drew1 | refine below_set ?_ (IsS99.ge HI366.out)) | exact HB.out)); rintro e w34 ⟨rfl, hi, hb, hk⟩; refine ⟨_, rfl, ?_⟩; have n0_ := Aside0.mk (Kd.R_mono (Kd.R_keep (IsS99.apart (show IsS99 w _ g366 t384 t385 t386 t387 t388 t389 t390 t391 t392 from by repeat (first | (with_reducible first | exact HI366.out | apply IsS99.alloc | apply IsS99.drewN | apply IsS99.drew | apply IsS99.set_0 | apply IsS99.set_1 | apply IsS99.set_2 | apply IsS99.set_3 | apply IsS99.set_4 | apply IsS99.set_5 | apply IsS99.set_6 | apply IsS99.set_7 | apply IsS99.set_8) | exact HI366.out)) (by (with_reducible repeat (first | apply Kd.R_alloc | apply Kd.R_drewN | apply Kd.R_drew)); exact HO_9.out) (by decide)) hk (fun _ h => h.2)) (fun _ h => h.1)); have n1_ := Aside0.mk (Kd.R_mono (Kd.R_keep (IsS99.apart (show IsS99 w _ g366 t384 t385 t386 t387 t388 t389 t390 t391 t392 from by repeat (first | (with_reducible first | exact HI366.out | apply IsS99.alloc | apply IsS99.drewN | apply IsS99.drew | apply IsS99.set_0 | apply IsS99.set_1 | apply IsS99.set_2 | apply IsS99.set_3 | apply IsS99.set_4 | apply IsS99.set_5 | apply IsS99.set_6 | apply IsS99.set_7 | apply IsS99.set_8) | exact HI366.out)) (by (with_reducible repeat (first | apply Kd.R_alloc | apply Kd.R_drewN | apply Kd.R_drew)); exact HO_37.out) (by decide)) hk (fun _ h => h.2)) (fun _ h => h.1)); have n2_ := Aside0.mk (hb); have n3_ := Aside0.mk (hi); clear HO_9; clear HO_37; clear HB; clear HI366; have HO_9 := n0_; have HO_37 := n1_; have HB := n2_; have HI366 := n3_; clear n0_ n1_ n2_ n3_; (try clear hb); (try clear hb2); (try clear hk); (try clear hi)))
                            go_ret
                            exact ⟨by first | rfl | (simp [errW_none, errW_some] <;> rfl) | (simp [*, errW_none, errW_some] <;> rfl), by repeat (first | (with_reducible first | exact HB.out | apply below_alloc | apply pw_below_drewN | apply below_drew1 | refine below_set ?_ (IsS99.ge HI366.out)) | exact HB.out)⟩
                        · replace c23 := Bool.eq_false_iff.mpr c23
                          subst c23
                          have H1 : (signalboxlaw36_FlowNever.l0 kj17 a0 l3 t352 x12_2 t352 (t352.length : Int) (wrap64 (x39_2 + 1)) t395 t396 t397 t398 t399 t400 t401 t402 t403) = some r := by rw [if_neg (show ¬ (false = true) by decide)] at H; exact H
                          clear H
                          have H := H1
                          clear H1
                          have H' := Aside0.mk H
                          clear H
                          go_wp2_with (first | ((with_reducible refine gate_callee (f := 33) rfl ?_); refine goesL_ (some 58) rfl rfl Try.func33 (by kernel_rfl) rfl #[.pointer (some ⟨g366, 0, none⟩), .string (rdOf ByteArray.empty t352 x39_2)] rfl (by (try simp only [List.map_toArray, List.map_cons, List.map_nil]); first | done | rfl | (simp only [List.length_drop, List.length_take]; rfl)) ?_; (with_reducible refine (flow_In_Take.calls g366 x367000_2 x367001_2 x367002_2 x367003_2 x367004_2 x367005_2 x367006_2 x367007_2 x367008_2 (rdOf ByteArray.empty t352 x39_2) t382 t383 t384 t385 t386 t387 t388 t389 t390 t391 t392 w _ ?side1 ?side2 A21.out).mono ?_); (case side1 => repeat (first | (with_reducible first | exact HI366.out | apply IsS99.alloc | apply IsS99.drewN | apply IsS99.drew | apply IsS99.set_0 | apply IsS99.set_1 | apply IsS99.set_2 | apply IsS99.set_3 | apply IsS99.set_4 | apply IsS99.set_5 | apply IsS99.set_6 | apply IsS99.set_7 | apply IsS99.set_8) | exact HI366.out)); (case side2 => repeat (first | (with_reducible first | exact HB.out | apply below_alloc | apply pw_below_drewN | apply below_drew1 | refine below_set ?_ (IsS99.ge HI366.out)) | exact HB.out)); rintro e w35 ⟨rfl, hi, hb, hk⟩; refine ⟨_, rfl, ?_⟩; have n0_ := Aside0.mk (Kd.R_mono (Kd.R_keep (IsS99.apart (show IsS99 w _ g366 x367000_2 x367001_2 x367002_2 x367003_2 x367004_2 x367005_2 x367006_2 x367007_2 x367008_2 from by repeat (first | (with_reducible first | exact HI366.out | apply IsS99.alloc | apply IsS99.drewN | apply IsS99.drew | apply IsS99.set_0 | apply IsS99.set_1 | apply IsS99.set_2 | apply IsS99.set_3 | apply IsS99.set_4 | apply IsS99.set_5 | apply IsS99.set_6 | apply IsS99.set_7 | apply IsS99.set_8) | exact HI366.out)) (by (with_reducible repeat (first | apply Kd.R_alloc | apply Kd.R_drewN | apply Kd.R_drew)); exact HO_9.out) (by decide)) hk (fun _ h => h.2)) (fun _ h => h.1)); have n1_ := Aside0.mk (Kd.R_mono (Kd.R_keep (IsS99.apart (show IsS99 w _ g366 x367000_2 x367001_2 x367002_2 x367003_2 x367004_2 x367005_2 x367006_2 x367007_2 x367008_2 from by repeat (first | (with_reducible first | exact HI366.out | apply IsS99.alloc | apply IsS99.drewN | apply IsS99.drew | apply IsS99.set_0 | apply IsS99.set_1 | apply IsS99.set_2 | apply IsS99.set_3 | apply IsS99.set_4 | apply IsS99.set_5 | apply IsS99.set_6 | apply IsS99.set_7 | apply IsS99.set_8) | exact HI366.out)) (by (with_reducible repeat (first | apply Kd.R_alloc | apply Kd.R_drewN | apply Kd.R_drew)); exact HO_37.out) (by decide)) hk (fun _ h => h.2)) (fun _ h => h.1)); have n2_ := Aside0.mk (hb); have n3_ := Aside0.mk (hi); clear HO_9; clear HO_37; clear HB; clear HI366; have HO_9 := n0_; have HO_37 := n1_; have HB := n2_; have HI366 := n3_; clear n0_ n1_ n2_ n3_; (try clear hb); (try clear hb2); (try clear hk); (try clear hi)) | ((with_reducible refine gate_callee (f := 34) rfl ?_); refine goesL_ (some 61) rfl rfl Try.func34 (by kernel_rfl) rfl #[.pointer (some ⟨g366, 0, none⟩)] rfl (by (try simp only [List.map_toArray, List.map_cons, List.map_nil]); first | done | rfl | (simp only [List.length_drop, List.length_take]; rfl)) ?_; (with_reducible refine (flow_In_Msg.calls g366 t384 t385 t386 t387 t388 t389 t390 t391 t392 t393 false t395 t396 t397 t398 t399 t400 t401 t402 t403 w _ ?side1 ?side2 A22.out).mono ?_); (case side1 => repeat (first | (with_reducible first | exact HI366.out | apply IsS99.alloc | apply IsS99.drewN | apply IsS99.drew | apply IsS99.set_0 | apply IsS99.set_1 | apply IsS99.set_2 | apply IsS99.set_3 | apply IsS99.set_4 | apply IsS99.set_5 | apply IsS99.set_6 | apply IsS99.set_7 | apply IsS99.set_8) | exact HI366.out)); (case side2 => repeat (first | (with_reducible first | exact HB.out | apply below_alloc | apply pw_below_drewN | apply below_drew1 | refine below_set ?_ (IsS99.ge HI366.out)) | exact HB.out)); rintro e w36 ⟨rfl, hi, hb, hk⟩; refine ⟨_, rfl, ?_⟩; have n0_ := Aside0.mk (Kd.R_mono (Kd.R_keep (IsS99.apart (show IsS99 w _ g366 t384 t385 t386 t387 t388 t389 t390 t391 t392 from by repeat (first | (with_reducible first | exact HI366.out | apply IsS99.alloc | apply IsS99.drewN | apply IsS99.drew | apply IsS99.set_0 | apply IsS99.set_1 | apply IsS99.set_2 | apply IsS99.set_3 | apply IsS99.set_4 | apply IsS99.set_5 | apply IsS99.set_6 | apply IsS99.set_7 | apply IsS99.set_8) | exact HI366.out)) (by (with_reducible repeat (first | apply Kd.R_alloc | apply Kd.R_drewN | apply Kd.R_drew)); exact HO_9.out) (by decide)) hk (fun _ h => h.2)) (fun _ h => h.1)); have n1_ := Aside0.mk (Kd.R_mono (Kd.R_keep (IsS99.apart (show IsS99 w _ g366 t384 t385 t386 t387 t388 t389 t390 t391 t392 from by repeat (first | (with_reducible first | exact HI366.out | apply IsS99.alloc | apply IsS99.drewN | apply IsS99.drew | apply IsS99.set_0 | apply IsS99.set_1 | apply IsS99.set_2 | apply IsS99.set_3 | apply IsS99.set_4 | apply IsS99.set_5 | apply IsS99.set_6 | apply IsS99.set_7 | apply IsS99.set_8) | exact HI366.out)) (by (with_reducible repeat (first | apply Kd.R_alloc | apply Kd.R_drewN | apply Kd.R_drew)); exact HO_37.out) (by decide)) hk (fun _ h => h.2)) (fun _ h => h.1)); have n2_ := Aside0.mk (hb); have n3_ := Aside0.mk (hi); clear HO_9; clear HO_37; clear HB; clear HI366; have HO_9 := n0_; have HO_37 := n1_; have HB := n2_; have HI366 := n3_; clear n0_ n1_ n2_ n3_; (try clear hb); (try clear hb2); (try clear hk); (try clear hi)))
                          go_roundg kj17
                          case measure => have := HJ5.out; have := HK2.out; have := HJ17.out; omega
                          case rel => exact ⟨(x12_2), (wrap64 (x39_2 + 1)), (t395), (t396), (t397), (t398), (t399), (t400), (t401), (t402), (t403), (by first | rfl | (simp; done) | (simp [*]; done)), (by first | rfl | (simp; done) | (simp [*]; done)), H', ⟨by have := HJ5.out; have := HK2.out; have := HJ17.out; omega⟩, ⟨by (with_reducible repeat (first | apply Kd.R_alloc | apply Kd.R_drewN | apply Kd.R_drew)); exact HO_9.out⟩, ⟨by (with_reducible repeat (first | apply Kd.R_alloc | apply Kd.R_drewN | apply Kd.R_drew)); exact HO_37.out⟩, ⟨by repeat (first | (with_reducible first | exact HI366.out | apply IsS99.alloc | apply IsS99.drewN | apply IsS99.drew | apply IsS99.set_0 | apply IsS99.set_1 | apply IsS99.set_2 | apply IsS99.set_3 | apply IsS99.set_4 | apply IsS99.set_5 | apply IsS99.set_6 | apply IsS99.set_7 | apply IsS99.set_8) | exact HI366.out)⟩, ⟨by repeat (first | (with_reducible first | exact HB.out | apply below_alloc | apply pw_below_drewN | apply below_drew1 | refine below_set ?_ (IsS99.ge HI366.out)) | exact HB.out)⟩⟩
                · rw [if_neg c17] at H
                  exact absurd H (by simp)
              · rw [if_neg c16] at H
                exact absurd H (by simp)
            · rw [if_neg c15] at H
              have c15b0 : decide (x39_2 < (t352.length : Int)) = false := decide_eq_false c15
              clear c15
              replace H := Option.bind_eq_some_iff.mp H
              obtain ⟨⟨t367, t368, t369, t370, t371, t372, t373, t374, t375, t376, t377⟩, A370, H⟩ := H
              replace H : (if (t368 == (x12_2 == 0)) = true then (if t368 = true then (if t367.toList = a0.toList then ((signalboxlaw36_alive.f).bind fun t378 => (some t378)) else (some false)) else ((signalboxlaw36_alive.f).bind fun t379 => (some t379))) else (some false)) = some r := H
              have A37 := Aside0.mk A370
              clear A370
              by_cases c38 : (t368 == (x12_2 == 0)) = true
              · rw [if_pos c38] at H
                have c38b0 : (t368 == (x12_2 == 0)) = true := c38
                (try (have c38b1 : decide (t368 = (x12_2 == 0)) = true := by simpa using c38))
                (try (have c38b2 : (t368 == (x12_2 == 0)) = true := by simpa using c38))
                clear c38
                by_cases c39 : t368 = true
                · subst c39
                  have H1 : (if t367.toList = a0.toList then ((signalboxlaw36_alive.f).bind fun t378 => (some t378)) else (some false)) = some r := by rw [if_pos rfl] at H; exact H
                  clear H
                  have H := H1
                  clear H1
                  by_cases c40 : t367.toList = a0.toList
                  · rw [if_pos c40] at H
                    have c40b0 : (t367.toList == a0.toList) = true := beq_iff_eq.mpr c40
                    have c40b1 : (t367.toList != a0.toList) = false := bne_eq_false_iff_eq.mpr c40
                    clear c40
                    replace H := Option.bind_eq_some_iff.mp H
                    obtain ⟨t378, A410, H⟩ := H
                    replace H : (some t378) = some r := H
                    have A41 := Aside0.mk A410
                    clear A410
                    obtain rfl := Option.some.inj H
                    go_wp2_with (first | ((with_reducible refine gate_callee (f := 34) rfl ?_); refine goesL_ (some 84) rfl rfl Try.func34 (by kernel_rfl) rfl #[.pointer (some ⟨g366, 0, none⟩)] rfl (by (try simp only [List.map_toArray, List.map_cons, List.map_nil]); first | done | rfl | (simp only [List.length_drop, List.length_take]; rfl)) ?_; (with_reducible refine (flow_In_Msg.calls g366 x367000_2 x367001_2 x367002_2 x367003_2 x367004_2 x367005_2 x367006_2 x367007_2 x367008_2 t367 true t369 t370 t371 t372 t373 t374 t375 t376 t377 w _ ?side1 ?side2 A37.out).mono ?_); (case side1 => repeat (first | (with_reducible first | exact HI366.out | apply IsS99.alloc | apply IsS99.drewN | apply IsS99.drew | apply IsS99.set_0 | apply IsS99.set_1 | apply IsS99.set_2 | apply IsS99.set_3 | apply IsS99.set_4 | apply IsS99.set_5 | apply IsS99.set_6 | apply IsS99.set_7 | apply IsS99.set_8) | exact HI366.out)); (case side2 => repeat (first | (with_reducible first | exact HB.out | apply below_alloc | apply pw_below_drewN | apply below_drew1 | refine below_set ?_ (IsS99.ge HI366.out)) | exact HB.out)); rintro e w42 ⟨rfl, hi, hb, hk⟩; refine ⟨_, rfl, ?_⟩; have n0_ := Aside0.mk (Kd.R_mono (Kd.R_keep (IsS99.apart (show IsS99 w _ g366 x367000_2 x367001_2 x367002_2 x367003_2 x367004_2 x367005_2 x367006_2 x367007_2 x367008_2 from by repeat (first | (with_reducible first | exact HI366.out | apply IsS99.alloc | apply IsS99.drewN | apply IsS99.drew | apply IsS99.set_0 | apply IsS99.set_1 | apply IsS99.set_2 | apply IsS99.set_3 | apply IsS99.set_4 | apply IsS99.set_5 | apply IsS99.set_6 | apply IsS99.set_7 | apply IsS99.set_8) | exact HI366.out)) (by (with_reducible repeat (first | apply Kd.R_alloc | apply Kd.R_drewN | apply Kd.R_drew)); exact HO_9.out) (by decide)) hk (fun _ h => h.2)) (fun _ h => h.1)); have n1_ := Aside0.mk (Kd.R_mono (Kd.R_keep (IsS99.apart (show IsS99 w _ g366 x367000_2 x367001_2 x367002_2 x367003_2 x367004_2 x367005_2 x367006_2 x367007_2 x367008_2 from by repeat (first | (with_reducible first | exact HI366.out | apply IsS99.alloc | apply IsS99.drewN | apply IsS99.drew | apply IsS99.set_0 | apply IsS99.set_1 | apply IsS99.set_2 | apply IsS99.set_3 | apply IsS99.set_4 | apply IsS99.set_5 | apply IsS99.set_6 | apply IsS99.set_7 | apply IsS99.set_8) | exact HI366.out)) (by (with_reducible repeat (first | apply Kd.R_alloc | apply Kd.R_drewN | apply Kd.R_drew)); exact HO_37.out) (by decide)) hk (fun _ h => h.2)) (fun _ h => h.1)); have n2_ := Aside0.mk (hb); have n3_ := Aside0.mk (hi); clear HO_9; clear HO_37; clear HB; clear HI366; have HO_9 := n0_; have HO_37 := n1_; have HB := n2_; have HI366 := n3_; clear n0_ n1_ n2_ n3_; (try clear hb); (try clear hb2); (try clear hk); (try clear hi)) | (go_at_call 28; (with_reducible refine (signalboxlaw36_alive.calls  t378 _ A41.out).mono ?_); rintro e w43 ⟨rfl, hb⟩; have n0_ := Aside0.mk (Kd.R_below (by (with_reducible repeat (first | apply Kd.R_alloc | apply Kd.R_drewN | apply Kd.R_drew)); exact HO_9.out) hb); have n1_ := Aside0.mk (Kd.R_below (by (with_reducible repeat (first | apply Kd.R_alloc | apply Kd.R_drewN | apply Kd.R_drew)); exact HO_37.out) hb); have n2_ := Aside0.mk (IsS99.below (by repeat (first | (with_reducible first | exact HI366.out | apply IsS99.alloc | apply IsS99.drewN | apply IsS99.drew | apply IsS99.set_0 | apply IsS99.set_1 | apply IsS99.set_2 | apply IsS99.set_3 | apply IsS99.set_4 | apply IsS99.set_5 | apply IsS99.set_6 | apply IsS99.set_7 | apply IsS99.set_8) | exact HI366.out)) hb); have n3_ := Aside0.mk (below_step (by repeat (first | (with_reducible first | exact HB.out | apply below_alloc | apply pw_below_drewN | apply below_drew1 | refine below_set ?_ (IsS99.ge HI366.out)) | exact HB.out)) hb); clear HO_9; clear HO_37; clear HI366; clear HB; have HO_9 := n0_; have HO_37 := n1_; have HI366 := n2_; have HB := n3_; clear n0_ n1_ n2_ n3_; (try clear hb); (try clear hb2); (try clear hk); (try clear hi)))
                    go_ret
                    exact ⟨by first | rfl | (simp [errW_none, errW_some] <;> rfl) | (simp [*, errW_none, errW_some] <;> rfl), by repeat (first | (with_reducible first | exact HB.out | apply below_alloc | apply pw_below_drewN | apply below_drew1 | refine below_set ?_ (IsS99.ge HI366.out)) | exact HB.out)⟩
                  · rw [if_neg c40] at H
                    have c40b0 : (t367.toList == a0.toList) = false := beq_eq_false_iff_ne.mpr c40
                    have c40b1 : (t367.toList != a0.toList) = true := bne_iff_ne.mpr c40
                    obtain rfl := Option.some.inj H
                    go_wp2_with (first | ((with_reducible refine gate_callee (f := 34) rfl ?_); refine goesL_ (some 84) rfl rfl Try.func34 (by kernel_rfl) rfl #[.pointer (some ⟨g366, 0, none⟩)] rfl (by (try simp only [List.map_toArray, List.map_cons, List.map_nil]); first | done | rfl | (simp only [List.length_drop, List.length_take]; rfl)) ?_; (with_reducible refine (flow_In_Msg.calls g366 x367000_2 x367001_2 x367002_2 x367003_2 x367004_2 x367005_2 x367006_2 x367007_2 x367008_2 t367 true t369 t370 t371 t372 t373 t374 t375 t376 t377 w _ ?side1 ?side2 A37.out).mono ?_); (case side1 => repeat (first | (with_reducible first | exact HI366.out | apply IsS99.alloc | apply IsS99.drewN | apply IsS99.drew | apply IsS99.set_0 | apply IsS99.set_1 | apply IsS99.set_2 | apply IsS99.set_3 | apply IsS99.set_4 | apply IsS99.set_5 | apply IsS99.set_6 | apply IsS99.set_7 | apply IsS99.set_8) | exact HI366.out)); (case side2 => repeat (first | (with_reducible first | exact HB.out | apply below_alloc | apply pw_below_drewN | apply below_drew1 | refine below_set ?_ (IsS99.ge HI366.out)) | exact HB.out)); rintro e w44 ⟨rfl, hi, hb, hk⟩; refine ⟨_, rfl, ?_⟩; have n0_ := Aside0.mk (Kd.R_mono (Kd.R_keep (IsS99.apart (show IsS99 w _ g366 x367000_2 x367001_2 x367002_2 x367003_2 x367004_2 x367005_2 x367006_2 x367007_2 x367008_2 from by repeat (first | (with_reducible first | exact HI366.out | apply IsS99.alloc | apply IsS99.drewN | apply IsS99.drew | apply IsS99.set_0 | apply IsS99.set_1 | apply IsS99.set_2 | apply IsS99.set_3 | apply IsS99.set_4 | apply IsS99.set_5 | apply IsS99.set_6 | apply IsS99.set_7 | apply IsS99.set_8) | exact HI366.out)) (by (with_reducible repeat (first | apply Kd.R_alloc | apply Kd.R_drewN | apply Kd.R_drew)); exact HO_9.out) (by decide)) hk (fun _ h => h.2)) (fun _ h => h.1)); have n1_ := Aside0.mk (Kd.R_mono (Kd.R_keep (IsS99.apart (show IsS99 w _ g366 x367000_2 x367001_2 x367002_2 x367003_2 x367004_2 x367005_2 x367006_2 x367007_2 x367008_2 from by repeat (first | (with_reducible first | exact HI366.out | apply IsS99.alloc | apply IsS99.drewN | apply IsS99.drew | apply IsS99.set_0 | apply IsS99.set_1 | apply IsS99.set_2 | apply IsS99.set_3 | apply IsS99.set_4 | apply IsS99.set_5 | apply IsS99.set_6 | apply IsS99.set_7 | apply IsS99.set_8) | exact HI366.out)) (by (with_reducible repeat (first | apply Kd.R_alloc | apply Kd.R_drewN | apply Kd.R_drew)); exact HO_37.out) (by decide)) hk (fun _ h => h.2)) (fun _ h => h.1)); have n2_ := Aside0.mk (hb); have n3_ := Aside0.mk (hi); clear HO_9; clear HO_37; clear HB; clear HI366; have HO_9 := n0_; have HO_37 := n1_; have HB := n2_; have HI366 := n3_; clear n0_ n1_ n2_ n3_; (try clear hb); (try clear hb2); (try clear hk); (try clear hi)))
                    go_ret
                    exact ⟨by first | rfl | (simp [errW_none, errW_some] <;> rfl) | (simp [*, errW_none, errW_some] <;> rfl), by repeat (first | (with_reducible first | exact HB.out | apply below_alloc | apply pw_below_drewN | apply below_drew1 | refine below_set ?_ (IsS99.ge HI366.out)) | exact HB.out)⟩
                · replace c39 := Bool.eq_false_iff.mpr c39
                  subst c39
                  have H1 : ((signalboxlaw36_alive.f).bind fun t379 => (some t379)) = some r := by rw [if_neg (show ¬ (false = true) by decide)] at H; exact H
                  clear H
                  have H := H1
                  clear H1
                  replace H := Option.bind_eq_some_iff.mp H
                  obtain ⟨t379, A450, H⟩ := H
                  replace H : (some t379) = some r := H
                  have A45 := Aside0.mk A450
                  clear A450
                  obtain rfl := Option.some.inj H
                  go_wp2_with (first | ((with_reducible refine gate_callee (f := 34) rfl ?_); refine goesL_ (some 84) rfl rfl Try.func34 (by kernel_rfl) rfl #[.pointer (some ⟨g366, 0, none⟩)] rfl (by (try simp only [List.map_toArray, List.map_cons, List.map_nil]); first | done | rfl | (simp only [List.length_drop, List.length_take]; rfl)) ?_; (with_reducible refine (flow_In_Msg.calls g366 x367000_2 x367001_2 x367002_2 x367003_2 x367004_2 x367005_2 x367006_2 x367007_2 x367008_2 t367 false t369 t370 t371 t372 t373 t374 t375 t376 t377 w _ ?side1 ?side2 A37.out).mono ?_); (case side1 => repeat (first | (with_reducible first | exact HI366.out | apply IsS99.alloc | apply IsS99.drewN | apply IsS99.drew | apply IsS99.set_0 | apply IsS99.set_1 | apply IsS99.set_2 | apply IsS99.set_3 | apply IsS99.set_4 | apply IsS99.set_5 | apply IsS99.set_6 | apply IsS99.set_7 | apply IsS99.set_8) | exact HI366.out)); (case side2 => repeat (first | (with_reducible first | exact HB.out | apply below_alloc | apply pw_below_drewN | apply below_drew1 | refine below_set ?_ (IsS99.ge HI366.out)) | exact HB.out)); rintro e w46 ⟨rfl, hi, hb, hk⟩; refine ⟨_, rfl, ?_⟩; have n0_ := Aside0.mk (Kd.R_mono (Kd.R_keep (IsS99.apart (show IsS99 w _ g366 x367000_2 x367001_2 x367002_2 x367003_2 x367004_2 x367005_2 x367006_2 x367007_2 x367008_2 from by repeat (first | (with_reducible first | exact HI366.out | apply IsS99.alloc | apply IsS99.drewN | apply IsS99.drew | apply IsS99.set_0 | apply IsS99.set_1 | apply IsS99.set_2 | apply IsS99.set_3 | apply IsS99.set_4 | apply IsS99.set_5 | apply IsS99.set_6 | apply IsS99.set_7 | apply IsS99.set_8) | exact HI366.out)) (by (with_reducible repeat (first | apply Kd.R_alloc | apply Kd.R_drewN | apply Kd.R_drew)); exact HO_9.out) (by decide)) hk (fun _ h => h.2)) (fun _ h => h.1)); have n1_ := Aside0.mk (Kd.R_mono (Kd.R_keep (IsS99.apart (show IsS99 w _ g366 x367000_2 x367001_2 x367002_2 x367003_2 x367004_2 x367005_2 x367006_2 x367007_2 x367008_2 from by repeat (first | (with_reducible first | exact HI366.out | apply IsS99.alloc | apply IsS99.drewN | apply IsS99.drew | apply IsS99.set_0 | apply IsS99.set_1 | apply IsS99.set_2 | apply IsS99.set_3 | apply IsS99.set_4 | apply IsS99.set_5 | apply IsS99.set_6 | apply IsS99.set_7 | apply IsS99.set_8) | exact HI366.out)) (by (with_reducible repeat (first | apply Kd.R_alloc | apply Kd.R_drewN | apply Kd.R_drew)); exact HO_37.out) (by decide)) hk (fun _ h => h.2)) (fun _ h => h.1)); have n2_ := Aside0.mk (hb); have n3_ := Aside0.mk (hi); clear HO_9; clear HO_37; clear HB; clear HI366; have HO_9 := n0_; have HO_37 := n1_; have HB := n2_; have HI366 := n3_; clear n0_ n1_ n2_ n3_; (try clear hb); (try clear hb2); (try clear hk); (try clear hi)) | (go_at_call 28; (with_reducible refine (signalboxlaw36_alive.calls  t379 _ A45.out).mono ?_); rintro e w47 ⟨rfl, hb⟩; have n0_ := Aside0.mk (Kd.R_below (by (with_reducible repeat (first | apply Kd.R_alloc | apply Kd.R_drewN | apply Kd.R_drew)); exact HO_9.out) hb); have n1_ := Aside0.mk (Kd.R_below (by (with_reducible repeat (first | apply Kd.R_alloc | apply Kd.R_drewN | apply Kd.R_drew)); exact HO_37.out) hb); have n2_ := Aside0.mk (IsS99.below (by repeat (first | (with_reducible first | exact HI366.out | apply IsS99.alloc | apply IsS99.drewN | apply IsS99.drew | apply IsS99.set_0 | apply IsS99.set_1 | apply IsS99.set_2 | apply IsS99.set_3 | apply IsS99.set_4 | apply IsS99.set_5 | apply IsS99.set_6 | apply IsS99.set_7 | apply IsS99.set_8) | exact HI366.out)) hb); have n3_ := Aside0.mk (below_step (by repeat (first | (with_reducible first | exact HB.out | apply below_alloc | apply pw_below_drewN | apply below_drew1 | refine below_set ?_ (IsS99.ge HI366.out)) | exact HB.out)) hb); clear HO_9; clear HO_37; clear HI366; clear HB; have HO_9 := n0_; have HO_37 := n1_; have HI366 := n2_; have HB := n3_; clear n0_ n1_ n2_ n3_; (try clear hb); (try clear hb2); (try clear hk); (try clear hi)))
                  go_ret
                  exact ⟨by first | rfl | (simp [errW_none, errW_some] <;> rfl) | (simp [*, errW_none, errW_some] <;> rfl), by repeat (first | (with_reducible first | exact HB.out | apply below_alloc | apply pw_below_drewN | apply below_drew1 | refine below_set ?_ (IsS99.ge HI366.out)) | exact HB.out)⟩
              · rw [if_neg c38] at H
                have c38b0 : (t368 == (x12_2 == 0)) = false := by simpa using c38
                (try (have c38b1 : decide (t368 = (x12_2 == 0)) = false := by simpa using c38))
                (try (have c38b2 : (t368 == (x12_2 == 0)) = false := by simpa using c38))
                (try (have c38b3 : ¬ (t368 = (x12_2 == 0)) := by simpa using c38))
                clear c38
                obtain rfl := Option.some.inj H
                go_wp2_with (first | ((with_reducible refine gate_callee (f := 34) rfl ?_); refine goesL_ (some 84) rfl rfl Try.func34 (by kernel_rfl) rfl #[.pointer (some ⟨g366, 0, none⟩)] rfl (by (try simp only [List.map_toArray, List.map_cons, List.map_nil]); first | done | rfl | (simp only [List.length_drop, List.length_take]; rfl)) ?_; (with_reducible refine (flow_In_Msg.calls g366 x367000_2 x367001_2 x367002_2 x367003_2 x367004_2 x367005_2 x367006_2 x367007_2 x367008_2 t367 t368 t369 t370 t371 t372 t373 t374 t375 t376 t377 w _ ?side1 ?side2 A37.out).mono ?_); (case side1 => repeat (first | (with_reducible first | exact HI366.out | apply IsS99.alloc | apply IsS99.drewN | apply IsS99.drew | apply IsS99.set_0 | apply IsS99.set_1 | apply IsS99.set_2 | apply IsS99.set_3 | apply IsS99.set_4 | apply IsS99.set_5 | apply IsS99.set_6 | apply IsS99.set_7 | apply IsS99.set_8) | exact HI366.out)); (case side2 => repeat (first | (with_reducible first | exact HB.out | apply below_alloc | apply pw_below_drewN | apply below_drew1 | refine below_set ?_ (IsS99.ge HI366.out)) | exact HB.out)); rintro e w48 ⟨rfl, hi, hb, hk⟩; refine ⟨_, rfl, ?_⟩; have n0_ := Aside0.mk (Kd.R_mono (Kd.R_keep (IsS99.apart (show IsS99 w _ g366 x367000_2 x367001_2 x367002_2 x367003_2 x367004_2 x367005_2 x367006_2 x367007_2 x367008_2 from by repeat (first | (with_reducible first | exact HI366.out | apply IsS99.alloc | apply IsS99.drewN | apply IsS99.drew | apply IsS99.set_0 | apply IsS99.set_1 | apply IsS99.set_2 | apply IsS99.set_3 | apply IsS99.set_4 | apply IsS99.set_5 | apply IsS99.set_6 | apply IsS99.set_7 | apply IsS99.set_8) | exact HI366.out)) (by (with_reducible repeat (first | apply Kd.R_alloc | apply Kd.R_drewN | apply Kd.R_drew)); exact HO_9.out) (by decide)) hk (fun _ h => h.2)) (fun _ h => h.1)); have n1_ := Aside0.mk (Kd.R_mono (Kd.R_keep (IsS99.apart (show IsS99 w _ g366 x367000_2 x367001_2 x367002_2 x367003_2 x367004_2 x367005_2 x367006_2 x367007_2 x367008_2 from by repeat (first | (with_reducible first | exact HI366.out | apply IsS99.alloc | apply IsS99.drewN | apply IsS99.drew | apply IsS99.set_0 | apply IsS99.set_1 | apply IsS99.set_2 | apply IsS99.set_3 | apply IsS99.set_4 | apply IsS99.set_5 | apply IsS99.set_6 | apply IsS99.set_7 | apply IsS99.set_8) | exact HI366.out)) (by (with_reducible repeat (first | apply Kd.R_alloc | apply Kd.R_drewN | apply Kd.R_drew)); exact HO_37.out) (by decide)) hk (fun _ h => h.2)) (fun _ h => h.1)); have n2_ := Aside0.mk (hb); have n3_ := Aside0.mk (hi); clear HO_9; clear HO_37; clear HB; clear HI366; have HO_9 := n0_; have HO_37 := n1_; have HB := n2_; have HI366 := n3_; clear n0_ n1_ n2_ n3_; (try clear hb); (try clear hb2); (try clear hk); (try clear hi)))
                go_ret
                exact ⟨by first | rfl | (simp [errW_none, errW_some] <;> rfl) | (simp [*, errW_none, errW_some] <;> rfl), by repeat (first | (with_reducible first | exact HB.out | apply below_alloc | apply pw_below_drewN | apply below_drew1 | refine below_set ?_ (IsS99.ge HI366.out)) | exact HB.out)⟩

end Go.Proofs.Ythgnhhdblbiihaa.P
