/- Printed for this claim by a program of the session (wip/gp.py, which drives the kit's printer): a Go function as a plain Lean function, and that its call answers it, wherever that function answers; no other conditions. -/
import Derived.Test.YthgnhhdblbiihaaP0
import Derived.Test.YthgnhhdblbiihaaPguardSeal
import Derived.Test.YthgnhhdblbiihaaPsignalboxlaw40alive
import Derived.Test.YthgnhhdblbiihaaPsignalboxref40Check
import Derived.Test.YthgnhhdblbiihaaPguardOpen
import Derived.Test.YthgnhhdblbiihaaGCheck
namespace Go.Proofs.Ythgnhhdblbiihaa.P
open Go.RowKit Go.Proofs.YthgnhhdblbiihaaW.PrintWords Go.Proofs.YthgnhhdblbiihaaW.PrintLast Go.Proofs.YthgnhhdblbiihaaW.PrintMore
attribute [local go_sem] max2_int min2_int max_two min_two max_three min_three max_four min_four   -- for this text's walks alone
set_option linter.unusedVariables false
set_option linter.unusedSimpArgs false

/-! ### signalboxlaw40_GuardSeals: function 3 -/
mutual
def signalboxlaw40_GuardSeals.j0 : Nat → Int → Int → Int → ByteArray → ByteArray → Int → Bool → Option (Bool)
  | 0, _, _, _, _, _, _, _ => none
  | k + 1, x0, x1, x2, x3, x9, x10, x60 => if x60 = true then (some false) else (if x0 < 0 then (signalboxlaw40_GuardSeals.j1 k x0 x1 x2 x3 x9 x10 true) else (if x0 > 255 then (signalboxlaw40_GuardSeals.j1 k x0 x1 x2 x3 x9 x10 true) else (if x2 < 0 then (signalboxlaw40_GuardSeals.j1 k x0 x1 x2 x3 x9 x10 true) else (if x2 > 14 then (signalboxlaw40_GuardSeals.j1 k x0 x1 x2 x3 x9 x10 true) else (signalboxlaw40_GuardSeals.j1 k x0 x1 x2 x3 x9 x10 (decide ((x3.size : Int) > 62)))))))
def signalboxlaw40_GuardSeals.j1 : Nat → Int → Int → Int → ByteArray → ByteArray → Int → Bool → Option (Bool)
  | 0, _, _, _, _, _, _, _ => none
  | k + 1, x0, x1, x2, x3, x9, x10, x79 => if x79 = true then (if x9.toList = ([] : List UInt8) then (if x10 = 2 then ((signalboxlaw40_alive.f k).bind fun t171 => (some t171)) else (some false)) else (some false)) else ((some (([(x2) % 256] : List Int) : List Int)).bind fun y172 => (if (strOfNums y172).size + x3.size ≤ 9223372036854775807 then (if x10 = 0 then ((signalboxref40_Check.f k x0 ((strOfNums y172) ++ x3)).bind fun t175 => ((some (([(t175) % 256] : List Int) : List Int)).bind fun y176 => (if ((strOfNums y172) ++ x3).size + (strOfNums y176).size ≤ 9223372036854775807 then (signalboxlaw40_GuardSeals.j2 k x0 x1 x2 x3 x9 ((strOfNums y172) ++ x3) (x9.toList != (((strOfNums y172) ++ x3) ++ (strOfNums y176)).toList)) else (none)))) else (signalboxlaw40_GuardSeals.j2 k x0 x1 x2 x3 x9 ((strOfNums y172) ++ x3) true)) else (none)))
def signalboxlaw40_GuardSeals.j2 : Nat → Int → Int → Int → ByteArray → ByteArray → ByteArray → Bool → Option (Bool)
  | 0, _, _, _, _, _, _, _ => none
  | k + 1, x0, x1, x2, x3, x9, x13, x108 => if x108 = true then (some false) else ((guard_Open.f k x0 x9).bind fun bt179 => ((guard_Open.f k x1 x9).bind fun bt182 => (if bt179.1 = x2 then (if bt179.2.1.toList = x3.toList then (if bt179.2.2 = 0 then ((signalboxref40_Check.f k x1 x13).bind fun t185 => ((signalboxref40_Check.f k x0 x13).bind fun t186 => (if ((bt182.2.2 == 0) == (t185 == t186)) = true then ((signalboxlaw40_alive.f k).bind fun t187 => (some t187)) else (some false)))) else (some false)) else (some false)) else (some false))))
end
def signalboxlaw40_GuardSeals.f (k : Nat) (a0 : Int) (a1 : Int) (a2 : Int) (a3 : ByteArray) : Option (Bool) := if (a3.size : Int) > 200 then ((signalboxlaw40_alive.f k).bind fun t164 => (some t164)) else ((guard_Seal.f k a0 a2 a3).bind fun bt165 => ((guard_Check.f a0 a3).bind fun bt167 => ((signalboxref40_Check.f k a0 a3).bind fun t169 => (if (bt167.2 != (decide (t169 ≥ 0))) = true then (signalboxlaw40_GuardSeals.j0 k a0 a1 a2 a3 bt165.1 bt165.2 true) else (if bt167.2 = true then ((signalboxref40_Check.f k a0 a3).bind fun t170 => (if bt167.1 = t170 then (signalboxlaw40_GuardSeals.j0 k a0 a1 a2 a3 bt165.1 bt165.2 false) else (signalboxlaw40_GuardSeals.j0 k a0 a1 a2 a3 bt165.1 bt165.2 true))) else (signalboxlaw40_GuardSeals.j0 k a0 a1 a2 a3 bt165.1 bt165.2 (bt167.1 != 0)))))))
theorem signalboxlaw40_GuardSeals.mono_l : ∀ k, (∀ y0 y1 y2 y3 y4 y5 y6, LeO (signalboxlaw40_GuardSeals.j0 k y0 y1 y2 y3 y4 y5 y6) (signalboxlaw40_GuardSeals.j0 (k + 1) y0 y1 y2 y3 y4 y5 y6)) ∧ (∀ y0 y1 y2 y3 y4 y5 y6, LeO (signalboxlaw40_GuardSeals.j1 k y0 y1 y2 y3 y4 y5 y6) (signalboxlaw40_GuardSeals.j1 (k + 1) y0 y1 y2 y3 y4 y5 y6)) ∧ (∀ y0 y1 y2 y3 y4 y5 y6, LeO (signalboxlaw40_GuardSeals.j2 k y0 y1 y2 y3 y4 y5 y6) (signalboxlaw40_GuardSeals.j2 (k + 1) y0 y1 y2 y3 y4 y5 y6))
  | 0 => ⟨fun _ _ _ _ _ _ _ r h => by simp [signalboxlaw40_GuardSeals.j0] at h, fun _ _ _ _ _ _ _ r h => by simp [signalboxlaw40_GuardSeals.j1] at h, fun _ _ _ _ _ _ _ r h => by simp [signalboxlaw40_GuardSeals.j2] at h⟩
  | k + 1 => by
    obtain ⟨ih0, ih1, ih2⟩ := signalboxlaw40_GuardSeals.mono_l k
    refine ⟨?_, ?_, ?_⟩
    · intro y0 y1 y2 y3 y4 y5 y6
      unfold signalboxlaw40_GuardSeals.j0
      repeat' first
      | (with_reducible exact ih0 _ _ _ _ _ _ _)
      | (with_reducible exact ih1 _ _ _ _ _ _ _)
      | (with_reducible exact ih2 _ _ _ _ _ _ _)
      | (with_reducible exact guard_Open.mono _ _ _)
      | (with_reducible exact guard_Seal.mono _ _ _ _)
      | (with_reducible exact signalboxlaw40_alive.mono _)
      | (with_reducible exact signalboxref40_Check.mono _ _ _)
      | (with_reducible exact LeO.refl _)
      | (with_reducible exact LeO.none _)
      | (with_reducible refine LeO.ite ?_ ?_)
      | (with_reducible refine LeO.bind ?_ (fun _ => ?_))
      | exact ih0 _ _ _ _ _ _ _
      | exact ih1 _ _ _ _ _ _ _
      | exact ih2 _ _ _ _ _ _ _
      | exact guard_Open.mono _ _ _
      | exact guard_Seal.mono _ _ _ _
      | exact signalboxlaw40_alive.mono _
      | exact signalboxref40_Check.mono _ _ _
      | exact LeO.none _
      | refine LeO.ite ?_ ?_
      | refine LeO.bind ?_ (fun _ => ?_)
    · intro y0 y1 y2 y3 y4 y5 y6
      unfold signalboxlaw40_GuardSeals.j1
      repeat' first
      | (with_reducible exact ih0 _ _ _ _ _ _ _)
      | (with_reducible exact ih1 _ _ _ _ _ _ _)
      | (with_reducible exact ih2 _ _ _ _ _ _ _)
      | (with_reducible exact guard_Open.mono _ _ _)
      | (with_reducible exact guard_Seal.mono _ _ _ _)
      | (with_reducible exact signalboxlaw40_alive.mono _)
      | (with_reducible exact signalboxref40_Check.mono _ _ _)
      | (with_reducible exact LeO.refl _)
      | (with_reducible exact LeO.none _)
      | (with_reducible refine LeO.ite ?_ ?_)
      | (with_reducible refine LeO.bind ?_ (fun _ => ?_))
      | exact ih0 _ _ _ _ _ _ _
      | exact ih1 _ _ _ _ _ _ _
      | exact ih2 _ _ _ _ _ _ _
      | exact guard_Open.mono _ _ _
      | exact guard_Seal.mono _ _ _ _
      | exact signalboxlaw40_alive.mono _
      | exact signalboxref40_Check.mono _ _ _
      | exact LeO.none _
      | refine LeO.ite ?_ ?_
      | refine LeO.bind ?_ (fun _ => ?_)
    · intro y0 y1 y2 y3 y4 y5 y6
      unfold signalboxlaw40_GuardSeals.j2
      repeat' first
      | (with_reducible exact ih0 _ _ _ _ _ _ _)
      | (with_reducible exact ih1 _ _ _ _ _ _ _)
      | (with_reducible exact ih2 _ _ _ _ _ _ _)
      | (with_reducible exact guard_Open.mono _ _ _)
      | (with_reducible exact guard_Seal.mono _ _ _ _)
      | (with_reducible exact signalboxlaw40_alive.mono _)
      | (with_reducible exact signalboxref40_Check.mono _ _ _)
      | (with_reducible exact LeO.refl _)
      | (with_reducible exact LeO.none _)
      | (with_reducible refine LeO.ite ?_ ?_)
      | (with_reducible refine LeO.bind ?_ (fun _ => ?_))
      | exact ih0 _ _ _ _ _ _ _
      | exact ih1 _ _ _ _ _ _ _
      | exact ih2 _ _ _ _ _ _ _
      | exact guard_Open.mono _ _ _
      | exact guard_Seal.mono _ _ _ _
      | exact signalboxlaw40_alive.mono _
      | exact signalboxref40_Check.mono _ _ _
      | exact LeO.none _
      | refine LeO.ite ?_ ?_
      | refine LeO.bind ?_ (fun _ => ?_)
theorem signalboxlaw40_GuardSeals.mono : ∀ a0 a1 a2 a3 k, LeO (signalboxlaw40_GuardSeals.f k a0 a1 a2 a3) (signalboxlaw40_GuardSeals.f (k + 1) a0 a1 a2 a3) := by
  intro a0 a1 a2 a3 k
  obtain ⟨ih0, ih1, ih2⟩ := signalboxlaw40_GuardSeals.mono_l k
  unfold signalboxlaw40_GuardSeals.f
  repeat' first
      | (with_reducible exact ih0 _ _ _ _ _ _ _)
      | (with_reducible exact ih1 _ _ _ _ _ _ _)
      | (with_reducible exact ih2 _ _ _ _ _ _ _)
      | (with_reducible exact guard_Open.mono _ _ _)
      | (with_reducible exact guard_Seal.mono _ _ _ _)
      | (with_reducible exact signalboxlaw40_alive.mono _)
      | (with_reducible exact signalboxref40_Check.mono _ _ _)
      | (with_reducible exact LeO.refl _)
      | (with_reducible exact LeO.none _)
      | (with_reducible refine LeO.ite ?_ ?_)
      | (with_reducible refine LeO.bind ?_ (fun _ => ?_))
      | exact ih0 _ _ _ _ _ _ _
      | exact ih1 _ _ _ _ _ _ _
      | exact ih2 _ _ _ _ _ _ _
      | exact guard_Open.mono _ _ _
      | exact guard_Seal.mono _ _ _ _
      | exact signalboxlaw40_alive.mono _
      | exact signalboxref40_Check.mono _ _ _
      | exact LeO.none _
      | refine LeO.ite ?_ ?_
      | refine LeO.bind ?_ (fun _ => ?_)
set_option maxHeartbeats 8000000 in
set_option maxRecDepth 100000 in
theorem signalboxlaw40_GuardSeals.calls (k : Nat) (a0 : Int) (a1 : Int) (a2 : Int) (a3 : ByteArray) (r : Bool) (w : World) (h : signalboxlaw40_GuardSeals.f k a0 a1 a2 a3 = some r) :
    Calls Try.prog 3 #[.int .i64 a0, .int .i64 a1, .int .i64 a2, .string a3] w fun e w' => e = .returned (.bool r) ∧ Below w.heap.size w w' := by
  have HB := Aside0.mk (Below.refl w.heap.size w)
  have H : (if (a3.size : Int) > 200 then ((signalboxlaw40_alive.f k).bind fun t164 => (some t164)) else ((guard_Seal.f k a0 a2 a3).bind fun bt165 => ((guard_Check.f a0 a3).bind fun bt167 => ((signalboxref40_Check.f k a0 a3).bind fun t169 => (if (bt167.2 != (decide (t169 ≥ 0))) = true then (signalboxlaw40_GuardSeals.j0 k a0 a1 a2 a3 bt165.1 bt165.2 true) else (if bt167.2 = true then ((signalboxref40_Check.f k a0 a3).bind fun t170 => (if bt167.1 = t170 then (signalboxlaw40_GuardSeals.j0 k a0 a1 a2 a3 bt165.1 bt165.2 false) else (signalboxlaw40_GuardSeals.j0 k a0 a1 a2 a3 bt165.1 bt165.2 true))) else (signalboxlaw40_GuardSeals.j0 k a0 a1 a2 a3 bt165.1 bt165.2 (bt167.1 != 0)))))))) = some r := h
  clear h
  by_cases c5 : (a3.size : Int) > 200
  · rw [if_pos c5] at H
    have c5b0 : decide (200 < (a3.size : Int)) = true := decide_eq_true c5
    have c5b1 : decide (200 < a3.size) = true := decide_eq_true (by omega)
    clear c5
    replace H := Option.bind_eq_some_iff.mp H
    obtain ⟨t164, A60, H⟩ := H
    replace H : (some t164) = some r := H
    have A6 := Aside0.mk A60
    clear A60
    obtain rfl := Option.some.inj H
    go_enter Try.func3, Try.ntmps3
    go_wp2_with (first | ((with_reducible refine gate_callee (f := 12) rfl ?_); refine goesL_ (some 23) rfl rfl Try.func12 (by kernel_rfl) rfl #[] rfl (by (try simp only [List.map_toArray, List.map_cons, List.map_nil]); first | done | rfl | (simp only [List.length_drop, List.length_take]; rfl)) ?_; (with_reducible refine (signalboxlaw40_alive.calls k  t164 _ A6.out).mono ?_); rintro e w7 ⟨rfl, hb⟩; refine ⟨_, rfl, ?_⟩; have n0_ := Aside0.mk (below_step (by repeat (first | (with_reducible first | exact HB.out | apply below_alloc | apply pw_below_drewN | apply below_drew1) | exact HB.out)) hb); clear HB; have HB := n0_; clear n0_; (try clear hb); (try clear hb2); (try clear hk); (try clear hi)))
    go_ret
    exact ⟨by first | rfl | (simp [errW_none, errW_some] <;> rfl) | (simp [*, errW_none, errW_some] <;> rfl), by repeat (first | (with_reducible first | exact HB.out | apply below_alloc | apply pw_below_drewN | apply below_drew1) | exact HB.out)⟩
  · rw [if_neg c5] at H
    have c5b0 : decide (200 < (a3.size : Int)) = false := decide_eq_false c5
    have c5b1 : decide (200 < a3.size) = false := decide_eq_false (by omega)
    clear c5
    replace H := Option.bind_eq_some_iff.mp H
    obtain ⟨⟨t165, t166⟩, A80, H⟩ := H
    replace H : ((guard_Check.f a0 a3).bind fun bt167 => ((signalboxref40_Check.f k a0 a3).bind fun t169 => (if (bt167.2 != (decide (t169 ≥ 0))) = true then (signalboxlaw40_GuardSeals.j0 k a0 a1 a2 a3 t165 t166 true) else (if bt167.2 = true then ((signalboxref40_Check.f k a0 a3).bind fun t170 => (if bt167.1 = t170 then (signalboxlaw40_GuardSeals.j0 k a0 a1 a2 a3 t165 t166 false) else (signalboxlaw40_GuardSeals.j0 k a0 a1 a2 a3 t165 t166 true))) else (signalboxlaw40_GuardSeals.j0 k a0 a1 a2 a3 t165 t166 (bt167.1 != 0)))))) = some r := H
    have A8 := Aside0.mk A80
    clear A80
    replace H := Option.bind_eq_some_iff.mp H
    obtain ⟨⟨t167, t168⟩, A90, H⟩ := H
    replace H : ((signalboxref40_Check.f k a0 a3).bind fun t169 => (if (t168 != (decide (t169 ≥ 0))) = true then (signalboxlaw40_GuardSeals.j0 k a0 a1 a2 a3 t165 t166 true) else (if t168 = true then ((signalboxref40_Check.f k a0 a3).bind fun t170 => (if t167 = t170 then (signalboxlaw40_GuardSeals.j0 k a0 a1 a2 a3 t165 t166 false) else (signalboxlaw40_GuardSeals.j0 k a0 a1 a2 a3 t165 t166 true))) else (signalboxlaw40_GuardSeals.j0 k a0 a1 a2 a3 t165 t166 (t167 != 0))))) = some r := H
    have A9 := Aside0.mk A90
    clear A90
    have HC10 := Aside0.mk H
    clear H
    go_enter Try.func3, Try.ntmps3
    go_upto_region 5 with (first | ((with_reducible refine gate_callee (f := 13) rfl ?_); refine goesL_ (some 28) rfl rfl Try.func13 (by kernel_rfl) rfl #[.int .i64 a0, .int .i64 a2, .string a3] rfl (by (try simp only [List.map_toArray, List.map_cons, List.map_nil]); first | done | rfl | (simp only [List.length_drop, List.length_take]; rfl)) ?_; (with_reducible refine (guard_Seal.calls k a0 a2 a3 t165 t166 _ A8.out).mono ?_); rintro e w11 ⟨rfl, hb⟩; refine ⟨_, rfl, ?_⟩; have n0_ := Aside0.mk (below_step (by repeat (first | (with_reducible first | exact HB.out | apply below_alloc | apply pw_below_drewN | apply below_drew1) | exact HB.out)) hb); clear HB; have HB := n0_; clear n0_; (try clear hb); (try clear hb2); (try clear hk); (try clear hi)) | ((with_reducible refine gate_callee (f := 14) rfl ?_); refine goesL_ (some 34) rfl rfl Try.func14 (by kernel_rfl) rfl #[.int .i64 a0, .string a3] rfl (by (try simp only [List.map_toArray, List.map_cons, List.map_nil]); first | done | rfl | (simp only [List.length_drop, List.length_take]; rfl)) ?_; (with_reducible refine (guard_Check.calls a0 a3 t167 t168 _ A9.out).mono ?_); rintro e w12 ⟨rfl, hb⟩; refine ⟨_, rfl, ?_⟩; have n0_ := Aside0.mk (below_step (by repeat (first | (with_reducible first | exact HB.out | apply below_alloc | apply pw_below_drewN | apply below_drew1) | exact HB.out)) hb); clear HB; have HB := n0_; clear n0_; (try clear hb); (try clear hb2); (try clear hk); (try clear hi)))
    (try simp only [Act.put, List.setIfInBounds_toArray, List.set_cons_zero, List.set_cons_succ])
    go_cut [60] (fun v60 wc => ∃ (kq : Nat) (x60_9 : Bool), v60 = .bool x60_9 ∧ Aside0 (signalboxlaw40_GuardSeals.j0 kq a0 a1 a2 a3 t165 t166 x60_9 = some r) ∧ Aside0 (kq ≤ k) ∧ Aside0 (Below w.heap.size w wc))
    case first =>
      have H := HC10.out
      clear HC10
      replace H := Option.bind_eq_some_iff.mp H
      obtain ⟨t169, A130, H⟩ := H
      replace H : (if (t168 != (decide (t169 ≥ 0))) = true then (signalboxlaw40_GuardSeals.j0 k a0 a1 a2 a3 t165 t166 true) else (if t168 = true then ((signalboxref40_Check.f k a0 a3).bind fun t170 => (if t167 = t170 then (signalboxlaw40_GuardSeals.j0 k a0 a1 a2 a3 t165 t166 false) else (signalboxlaw40_GuardSeals.j0 k a0 a1 a2 a3 t165 t166 true))) else (signalboxlaw40_GuardSeals.j0 k a0 a1 a2 a3 t165 t166 (t167 != 0)))) = some r := H
      have A13 := Aside0.mk A130
      clear A130
      by_cases c14 : (t168 != (decide (t169 ≥ 0))) = true
      · rw [if_pos c14] at H
        have c14b0 : (t168 != (decide (t169 ≥ 0))) = true := c14
        (try (have c14b1 : decide (t168 = (decide (t169 ≥ 0))) = false := by simpa using c14))
        (try (have c14b2 : (t168 == (decide (t169 ≥ 0))) = false := by simpa using c14))
        (try (have c14b3 : ¬ (t168 = (decide (t169 ≥ 0))) := by simpa using c14))
        clear c14
        (first | rw [c14b0] | (simp only [i64_w, i32_w]; rw [c14b0]) | skip)
        have H' := Aside0.mk H
        clear H
        go_wp2_with (first | ((with_reducible refine gate_callee (f := 15) rfl ?_); refine goesL_ (some 40) rfl rfl Try.func15 (by kernel_rfl) rfl #[.int .i64 a0, .string a3] rfl (by (try simp only [List.map_toArray, List.map_cons, List.map_nil]); first | done | rfl | (simp only [List.length_drop, List.length_take]; rfl)) ?_; (with_reducible refine (signalboxref40_Check.calls k a0 a3 t169 _ A13.out).mono ?_); rintro e w15 ⟨rfl, hb⟩; refine ⟨_, rfl, ?_⟩; have n0_ := Aside0.mk (below_step (by repeat (first | (with_reducible first | exact HB.out | apply below_alloc | apply pw_below_drewN | apply below_drew1) | exact HB.out)) hb); clear HB; have HB := n0_; clear n0_; (try clear hb); (try clear hb2); (try clear hk); (try clear hi)))
        go_meet
        case rel => exact ⟨_, (true), (by first | rfl | (simp; done) | (simp [*]; done)), H', ⟨by first | omega | exact Nat.le_refl _⟩, ⟨by repeat (first | (with_reducible first | exact HB.out | apply below_alloc | apply pw_below_drewN | apply below_drew1) | exact HB.out)⟩⟩
      · rw [if_neg c14] at H
        have c14b0 : (t168 != (decide (t169 ≥ 0))) = false := by simpa using c14
        (try (have c14b1 : decide (t168 = (decide (t169 ≥ 0))) = true := by simpa using c14))
        (try (have c14b2 : (t168 == (decide (t169 ≥ 0))) = true := by simpa using c14))
        clear c14
        (first | rw [c14b0] | (simp only [i64_w, i32_w]; rw [c14b0]) | skip)
        by_cases c16 : t168 = true
        · subst c16
          have H1 : ((signalboxref40_Check.f k a0 a3).bind fun t170 => (if t167 = t170 then (signalboxlaw40_GuardSeals.j0 k a0 a1 a2 a3 t165 t166 false) else (signalboxlaw40_GuardSeals.j0 k a0 a1 a2 a3 t165 t166 true))) = some r := by rw [if_pos rfl] at H; exact H
          clear H
          have H := H1
          clear H1
          replace H := Option.bind_eq_some_iff.mp H
          obtain ⟨t170, A170, H⟩ := H
          replace H : (if t167 = t170 then (signalboxlaw40_GuardSeals.j0 k a0 a1 a2 a3 t165 t166 false) else (signalboxlaw40_GuardSeals.j0 k a0 a1 a2 a3 t165 t166 true)) = some r := H
          have A17 := Aside0.mk A170
          clear A170
          by_cases c18 : t167 = t170
          · rw [if_pos c18] at H
            have c18b0 : (t167 == t170) = true := beq_iff_eq.mpr c18
            have c18b1 : (t167 != t170) = false := bne_eq_false_iff_eq.mpr c18
            clear c18
            have H' := Aside0.mk H
            clear H
            go_wp2_with (first | ((with_reducible refine gate_callee (f := 15) rfl ?_); refine goesL_ (some 40) rfl rfl Try.func15 (by kernel_rfl) rfl #[.int .i64 a0, .string a3] rfl (by (try simp only [List.map_toArray, List.map_cons, List.map_nil]); first | done | rfl | (simp only [List.length_drop, List.length_take]; rfl)) ?_; (with_reducible refine (signalboxref40_Check.calls k a0 a3 t169 _ A13.out).mono ?_); rintro e w19 ⟨rfl, hb⟩; refine ⟨_, rfl, ?_⟩; have n0_ := Aside0.mk (below_step (by repeat (first | (with_reducible first | exact HB.out | apply below_alloc | apply pw_below_drewN | apply below_drew1) | exact HB.out)) hb); clear HB; have HB := n0_; clear n0_; (try clear hb); (try clear hb2); (try clear hk); (try clear hi)) | (go_at_call 15; (with_reducible refine (signalboxref40_Check.calls k a0 a3 t170 _ A17.out).mono ?_); rintro e w20 ⟨rfl, hb⟩; have n0_ := Aside0.mk (below_step (by repeat (first | (with_reducible first | exact HB.out | apply below_alloc | apply pw_below_drewN | apply below_drew1) | exact HB.out)) hb); clear HB; have HB := n0_; clear n0_; (try clear hb); (try clear hb2); (try clear hk); (try clear hi)))
            go_meet
            case rel => exact ⟨_, (false), (by first | rfl | (simp; done) | (simp [*]; done)), H', ⟨by first | omega | exact Nat.le_refl _⟩, ⟨by repeat (first | (with_reducible first | exact HB.out | apply below_alloc | apply pw_below_drewN | apply below_drew1) | exact HB.out)⟩⟩
          · rw [if_neg c18] at H
            have c18b0 : (t167 == t170) = false := beq_eq_false_iff_ne.mpr c18
            have c18b1 : (t167 != t170) = true := bne_iff_ne.mpr c18
            have H' := Aside0.mk H
            clear H
            go_wp2_with (first | ((with_reducible refine gate_callee (f := 15) rfl ?_); refine goesL_ (some 40) rfl rfl Try.func15 (by kernel_rfl) rfl #[.int .i64 a0, .string a3] rfl (by (try simp only [List.map_toArray, List.map_cons, List.map_nil]); first | done | rfl | (simp only [List.length_drop, List.length_take]; rfl)) ?_; (with_reducible refine (signalboxref40_Check.calls k a0 a3 t169 _ A13.out).mono ?_); rintro e w21 ⟨rfl, hb⟩; refine ⟨_, rfl, ?_⟩; have n0_ := Aside0.mk (below_step (by repeat (first | (with_reducible first | exact HB.out | apply below_alloc | apply pw_below_drewN | apply below_drew1) | exact HB.out)) hb); clear HB; have HB := n0_; clear n0_; (try clear hb); (try clear hb2); (try clear hk); (try clear hi)) | (go_at_call 15; (with_reducible refine (signalboxref40_Check.calls k a0 a3 t170 _ A17.out).mono ?_); rintro e w22 ⟨rfl, hb⟩; have n0_ := Aside0.mk (below_step (by repeat (first | (with_reducible first | exact HB.out | apply below_alloc | apply pw_below_drewN | apply below_drew1) | exact HB.out)) hb); clear HB; have HB := n0_; clear n0_; (try clear hb); (try clear hb2); (try clear hk); (try clear hi)))
            go_meet
            case rel => exact ⟨_, (true), (by first | rfl | (simp; done) | (simp [*]; done)), H', ⟨by first | omega | exact Nat.le_refl _⟩, ⟨by repeat (first | (with_reducible first | exact HB.out | apply below_alloc | apply pw_below_drewN | apply below_drew1) | exact HB.out)⟩⟩
        · replace c16 := Bool.eq_false_iff.mpr c16
          subst c16
          have H1 : (signalboxlaw40_GuardSeals.j0 k a0 a1 a2 a3 t165 t166 (t167 != 0)) = some r := by rw [if_neg (show ¬ (false = true) by decide)] at H; exact H
          clear H
          have H := H1
          clear H1
          have H' := Aside0.mk H
          clear H
          go_wp2_with (first | ((with_reducible refine gate_callee (f := 15) rfl ?_); refine goesL_ (some 40) rfl rfl Try.func15 (by kernel_rfl) rfl #[.int .i64 a0, .string a3] rfl (by (try simp only [List.map_toArray, List.map_cons, List.map_nil]); first | done | rfl | (simp only [List.length_drop, List.length_take]; rfl)) ?_; (with_reducible refine (signalboxref40_Check.calls k a0 a3 t169 _ A13.out).mono ?_); rintro e w23 ⟨rfl, hb⟩; refine ⟨_, rfl, ?_⟩; have n0_ := Aside0.mk (below_step (by repeat (first | (with_reducible first | exact HB.out | apply below_alloc | apply pw_below_drewN | apply below_drew1) | exact HB.out)) hb); clear HB; have HB := n0_; clear n0_; (try clear hb); (try clear hb2); (try clear hk); (try clear hi)))
          go_meet
          case rel => exact ⟨_, ((t167 != 0)), (by first | rfl | (simp; done) | (simp [*]; done)), H', ⟨by first | omega | exact Nat.le_refl _⟩, ⟨by repeat (first | (with_reducible first | exact HB.out | apply below_alloc | apply pw_below_drewN | apply below_drew1) | exact HB.out)⟩⟩
    case rest =>
      clear HC10
      try clear c1
      try clear p2
      try clear c3
      try clear c5
      try clear c5b0
      try clear c5b1
      try clear c12
      try clear c13
      try clear c14
      try clear c14b0
      try clear c14b1
      try clear c14b2
      try clear c15
      try clear c16
      try clear c18
      try clear c18b0
      try clear c18b1
      obtain ⟨kq, x60_9, rfl, HA, HJ9, HB⟩ := hcut
      cases kq with
      | zero => exact absurd HA.out (by simp [signalboxlaw40_GuardSeals.j0])
      | succ kj9 =>
        have H := HA.out
        clear HA
        simp only [signalboxlaw40_GuardSeals.j0] at H
        by_cases c24 : x60_9 = true
        · subst c24
          have H1 : (some false) = some r := by rw [if_pos rfl] at H; exact H
          clear H
          have H := H1
          clear H1
          obtain rfl := Option.some.inj H
          go_wp2
          go_ret
          exact ⟨by first | rfl | (simp [errW_none, errW_some] <;> rfl) | (simp [*, errW_none, errW_some] <;> rfl), by repeat (first | (with_reducible first | exact HB.out | apply below_alloc | apply pw_below_drewN | apply below_drew1) | exact HB.out)⟩
        · replace c24 := Bool.eq_false_iff.mpr c24
          subst c24
          have H1 : (if a0 < 0 then (signalboxlaw40_GuardSeals.j1 kj9 a0 a1 a2 a3 t165 t166 true) else (if a0 > 255 then (signalboxlaw40_GuardSeals.j1 kj9 a0 a1 a2 a3 t165 t166 true) else (if a2 < 0 then (signalboxlaw40_GuardSeals.j1 kj9 a0 a1 a2 a3 t165 t166 true) else (if a2 > 14 then (signalboxlaw40_GuardSeals.j1 kj9 a0 a1 a2 a3 t165 t166 true) else (signalboxlaw40_GuardSeals.j1 kj9 a0 a1 a2 a3 t165 t166 (decide ((a3.size : Int) > 62))))))) = some r := by rw [if_neg (show ¬ (false = true) by decide)] at H; exact H
          clear H
          have H := H1
          clear H1
          have HC25 := Aside0.mk H
          clear H
          go_upto_region 7 with (fail)
          go_cut [79] (fun v79 wc => ∃ (kq : Nat) (x79_24 : Bool), v79 = .bool x79_24 ∧ Aside0 (signalboxlaw40_GuardSeals.j1 kq a0 a1 a2 a3 t165 t166 x79_24 = some r) ∧ Aside0 (kq ≤ kj9) ∧ Aside0 (Below w.heap.size w wc))
          case first =>
            have H := HC25.out
            clear HC25
            by_cases c26 : a0 < 0
            · rw [if_pos c26] at H
              have c26b0 : decide (a0 < 0) = true := decide_eq_true c26
              clear c26
              (first | rw [c26b0] | (simp only [i64_w, i32_w]; rw [c26b0]) | skip)
              have H' := Aside0.mk H
              clear H
              go_wp2
              go_meet
              case rel => exact ⟨_, (true), (by first | rfl | (simp; done) | (simp [*]; done)), H', ⟨by have := HJ9.out; first | omega | exact Nat.le_refl _⟩, ⟨by repeat (first | (with_reducible first | exact HB.out | apply below_alloc | apply pw_below_drewN | apply below_drew1) | exact HB.out)⟩⟩
            · rw [if_neg c26] at H
              have c26b0 : decide (a0 < 0) = false := decide_eq_false c26
              clear c26
              (first | rw [c26b0] | (simp only [i64_w, i32_w]; rw [c26b0]) | skip)
              by_cases c27 : a0 > 255
              · rw [if_pos c27] at H
                have c27b0 : decide (255 < a0) = true := decide_eq_true c27
                clear c27
                have H' := Aside0.mk H
                clear H
                go_wp2
                go_meet
                case rel => exact ⟨_, (true), (by first | rfl | (simp; done) | (simp [*]; done)), H', ⟨by have := HJ9.out; first | omega | exact Nat.le_refl _⟩, ⟨by repeat (first | (with_reducible first | exact HB.out | apply below_alloc | apply pw_below_drewN | apply below_drew1) | exact HB.out)⟩⟩
              · rw [if_neg c27] at H
                have c27b0 : decide (255 < a0) = false := decide_eq_false c27
                clear c27
                by_cases c28 : a2 < 0
                · rw [if_pos c28] at H
                  have c28b0 : decide (a2 < 0) = true := decide_eq_true c28
                  clear c28
                  have H' := Aside0.mk H
                  clear H
                  go_wp2
                  go_meet
                  case rel => exact ⟨_, (true), (by first | rfl | (simp; done) | (simp [*]; done)), H', ⟨by have := HJ9.out; first | omega | exact Nat.le_refl _⟩, ⟨by repeat (first | (with_reducible first | exact HB.out | apply below_alloc | apply pw_below_drewN | apply below_drew1) | exact HB.out)⟩⟩
                · rw [if_neg c28] at H
                  have c28b0 : decide (a2 < 0) = false := decide_eq_false c28
                  clear c28
                  by_cases c29 : a2 > 14
                  · rw [if_pos c29] at H
                    have c29b0 : decide (14 < a2) = true := decide_eq_true c29
                    clear c29
                    have H' := Aside0.mk H
                    clear H
                    go_wp2
                    go_meet
                    case rel => exact ⟨_, (true), (by first | rfl | (simp; done) | (simp [*]; done)), H', ⟨by have := HJ9.out; first | omega | exact Nat.le_refl _⟩, ⟨by repeat (first | (with_reducible first | exact HB.out | apply below_alloc | apply pw_below_drewN | apply below_drew1) | exact HB.out)⟩⟩
                  · rw [if_neg c29] at H
                    have c29b0 : decide (14 < a2) = false := decide_eq_false c29
                    clear c29
                    have H' := Aside0.mk H
                    clear H
                    go_wp2
                    go_meet
                    case rel => exact ⟨_, (decide ((a3.size : Int) > 62)), (by first | rfl | (simp; done) | (simp [*]; done)), H', ⟨by have := HJ9.out; first | omega | exact Nat.le_refl _⟩, ⟨by repeat (first | (with_reducible first | exact HB.out | apply below_alloc | apply pw_below_drewN | apply below_drew1) | exact HB.out)⟩⟩
          case rest =>
            clear HC25
            try clear c1
            try clear c2
            try clear p2
            try clear c3
            try clear c5
            try clear c5b0
            try clear c5b1
            try clear c12
            try clear c13
            try clear c14
            try clear c14b0
            try clear c14b1
            try clear c14b2
            try clear c15
            try clear c16
            try clear c18
            try clear c18b0
            try clear c18b1
            try clear c24
            try clear c26
            try clear c26b0
            try clear c27
            try clear c27b0
            try clear c28
            try clear c28b0
            try clear c29
            try clear c29b0
            try clear p2
            obtain ⟨kq, x79_24, rfl, HA, HJ24, HB⟩ := hcut
            cases kq with
            | zero => exact absurd HA.out (by simp [signalboxlaw40_GuardSeals.j1])
            | succ kj24 =>
              have H := HA.out
              clear HA
              simp only [signalboxlaw40_GuardSeals.j1] at H
              by_cases c30 : x79_24 = true
              · subst c30
                have H1 : (if t165.toList = ([] : List UInt8) then (if t166 = 2 then ((signalboxlaw40_alive.f kj24).bind fun t171 => (some t171)) else (some false)) else (some false)) = some r := by rw [if_pos rfl] at H; exact H
                clear H
                have H := H1
                clear H1
                by_cases c31 : t165.toList = ([] : List UInt8)
                · rw [if_pos c31] at H
                  have c31b0 : (t165.toList == ([] : List UInt8)) = true := beq_iff_eq.mpr c31
                  have c31b1 : (t165.toList != ([] : List UInt8)) = false := bne_eq_false_iff_eq.mpr c31
                  clear c31
                  by_cases c32 : t166 = 2
                  · rw [if_pos c32] at H
                    have c32b0 : (t166 == 2) = true := beq_iff_eq.mpr c32
                    have c32b1 : (t166 != 2) = false := bne_eq_false_iff_eq.mpr c32
                    clear c32
                    replace H := Option.bind_eq_some_iff.mp H
                    obtain ⟨t171, A330, H⟩ := H
                    replace H : (some t171) = some r := H
                    have A33 := Aside0.mk A330
                    clear A330
                    obtain rfl := Option.some.inj H
                    go_wp2_with (first | (go_at_call 12; (with_reducible refine (signalboxlaw40_alive.calls kj24  t171 _ A33.out).mono ?_); rintro e w34 ⟨rfl, hb⟩; have n0_ := Aside0.mk (below_step (by repeat (first | (with_reducible first | exact HB.out | apply below_alloc | apply pw_below_drewN | apply below_drew1) | exact HB.out)) hb); clear HB; have HB := n0_; clear n0_; (try clear hb); (try clear hb2); (try clear hk); (try clear hi)))
                    go_ret
                    exact ⟨by first | rfl | (simp [errW_none, errW_some] <;> rfl) | (simp [*, errW_none, errW_some] <;> rfl), by repeat (first | (with_reducible first | exact HB.out | apply below_alloc | apply pw_below_drewN | apply below_drew1) | exact HB.out)⟩
                  · rw [if_neg c32] at H
                    have c32b0 : (t166 == 2) = false := beq_eq_false_iff_ne.mpr c32
                    have c32b1 : (t166 != 2) = true := bne_iff_ne.mpr c32
                    obtain rfl := Option.some.inj H
                    go_wp2
                    go_ret
                    exact ⟨by first | rfl | (simp [errW_none, errW_some] <;> rfl) | (simp [*, errW_none, errW_some] <;> rfl), by repeat (first | (with_reducible first | exact HB.out | apply below_alloc | apply pw_below_drewN | apply below_drew1) | exact HB.out)⟩
                · rw [if_neg c31] at H
                  have c31b0 : (t165.toList == ([] : List UInt8)) = false := beq_eq_false_iff_ne.mpr c31
                  have c31b1 : (t165.toList != ([] : List UInt8)) = true := bne_iff_ne.mpr c31
                  obtain rfl := Option.some.inj H
                  go_wp2
                  go_ret
                  exact ⟨by first | rfl | (simp [errW_none, errW_some] <;> rfl) | (simp [*, errW_none, errW_some] <;> rfl), by repeat (first | (with_reducible first | exact HB.out | apply below_alloc | apply pw_below_drewN | apply below_drew1) | exact HB.out)⟩
              · replace c30 := Bool.eq_false_iff.mpr c30
                subst c30
                have H1 : ((some (([(a2) % 256] : List Int) : List Int)).bind fun y172 => (if (strOfNums y172).size + a3.size ≤ 9223372036854775807 then (if t166 = 0 then ((signalboxref40_Check.f kj24 a0 ((strOfNums y172) ++ a3)).bind fun t175 => ((some (([(t175) % 256] : List Int) : List Int)).bind fun y176 => (if ((strOfNums y172) ++ a3).size + (strOfNums y176).size ≤ 9223372036854775807 then (signalboxlaw40_GuardSeals.j2 kj24 a0 a1 a2 a3 t165 ((strOfNums y172) ++ a3) (t165.toList != (((strOfNums y172) ++ a3) ++ (strOfNums y176)).toList)) else (none)))) else (signalboxlaw40_GuardSeals.j2 kj24 a0 a1 a2 a3 t165 ((strOfNums y172) ++ a3) true)) else (none))) = some r := by rw [if_neg (show ¬ (false = true) by decide)] at H; exact H
                clear H
                have H := H1
                clear H1
                obtain ⟨y172, hy172⟩ : ∃ y_ : List Int, y_ = (([(a2) % 256] : List Int)) := ⟨_, rfl⟩
                replace H : (if (strOfNums y172).size + a3.size ≤ 9223372036854775807 then (if t166 = 0 then ((signalboxref40_Check.f kj24 a0 ((strOfNums y172) ++ a3)).bind fun t175 => ((some (([(t175) % 256] : List Int) : List Int)).bind fun y176 => (if ((strOfNums y172) ++ a3).size + (strOfNums y176).size ≤ 9223372036854775807 then (signalboxlaw40_GuardSeals.j2 kj24 a0 a1 a2 a3 t165 ((strOfNums y172) ++ a3) (t165.toList != (((strOfNums y172) ++ a3) ++ (strOfNums y176)).toList)) else (none)))) else (signalboxlaw40_GuardSeals.j2 kj24 a0 a1 a2 a3 t165 ((strOfNums y172) ++ a3) true)) else (none)) = some r := by first | (rw [hy172]; with_reducible exact H) | (have H2_ := (Option.bind_some _ _).symm.trans H; rw [hy172]; with_reducible exact H2_) | (have H2_ := (Option.bind_some _ _).symm.trans H; with_reducible exact H2_) | with_reducible exact H | (rw [hy172]; exact H) | exact H
                have Ny172 := Aside0.mk hy172
                clear hy172
                by_cases c35 : (strOfNums y172).size + a3.size ≤ 9223372036854775807
                · rw [if_pos c35] at H
                  have c35b0 := eq_true c35
                  have c35b1 : decide ((strOfNums y172).size + a3.size ≤ 9223372036854775807) = true := decide_eq_true c35
                  try have c35b2 : (9223372036854775807 < (strOfNums y172).size + a3.size) = False := eq_false (Nat.not_lt.2 c35)
                  have HC36 := Aside0.mk H
                  clear H
                  go_upto_region 10 with (first | ((with_reducible refine gate_dst (N := 91) rfl ?_); (try (refine gate_guard (by rfl) ?_; dsimp only)); refine Kd.R_lit (Kd.int .u8) _ 5 ?hg (N := 91) ?hd (xs := ([(a2) % 256] : List Int)) (inner := [.int .u8 ((a2) % 256)]) (ok := fun _ => True) (okp := fun _ => True) ?hr ?hp (fun _ hk => hk) trivial (Below.refl _ _) (Nat.le_refl _) (by simp) ?_; (case hd => rfl); (case hg => rfl); (case hr => first | (go_simp; done) | (go_simp; rfl)); (case hp => exact (Reps.one (show Kd.M (Kd.int .u8) _ _ _ ((a2) % 256) [.int .u8 ((a2) % 256)] from rfl) (Reps.none _ _))); intro v173 w37 ho38 hb hg_ hnew_; clear hg_ hnew_; (first | rw [← Ny172.out] at ho38 | (simp only [Int.reduceToNat] at ho38; rw [← Ny172.out] at ho38)); have n0_ := Aside0.mk (Kd.R_lower ho38 (below_size (by repeat (first | (with_reducible first | exact HB.out | apply below_alloc | apply pw_below_drewN | apply below_drew1) | exact HB.out)))); have n1_ := Aside0.mk (below_step (by repeat (first | (with_reducible first | exact HB.out | apply below_alloc | apply pw_below_drewN | apply below_drew1) | exact HB.out)) hb); clear HB; have HO174 := n0_; have HB := n1_; clear n0_ n1_; clear hb ho38; have hcv39 := own_string (P := Try.prog) Try.underlying29 Try.underlying5 Try.underlying9 (Kd.own_of_R HO174.out)))
                  (try simp only [Act.put, List.setIfInBounds_toArray, List.set_cons_zero, List.set_cons_succ])
                  go_cut [108] (fun v108 wc => ∃ (kq : Nat) (x108_35 : Bool), v108 = .bool x108_35 ∧ Aside0 (signalboxlaw40_GuardSeals.j2 kq a0 a1 a2 a3 t165 ((strOfNums y172) ++ a3) x108_35 = some r) ∧ Aside0 (kq ≤ kj24) ∧ Aside0 (Below w.heap.size w wc))
                  case first =>
                    have H := HC36.out
                    clear HC36
                    by_cases c40 : t166 = 0
                    · rw [if_pos c40] at H
                      have c40b0 : (t166 == 0) = true := beq_iff_eq.mpr c40
                      have c40b1 : (t166 != 0) = false := bne_eq_false_iff_eq.mpr c40
                      clear c40
                      (first | rw [c40b0] | (simp only [i64_w, i32_w]; rw [c40b0]) | skip)
                      replace H := Option.bind_eq_some_iff.mp H
                      obtain ⟨t175, A410, H⟩ := H
                      replace H : ((some (([(t175) % 256] : List Int) : List Int)).bind fun y176 => (if ((strOfNums y172) ++ a3).size + (strOfNums y176).size ≤ 9223372036854775807 then (signalboxlaw40_GuardSeals.j2 kj24 a0 a1 a2 a3 t165 ((strOfNums y172) ++ a3) (t165.toList != (((strOfNums y172) ++ a3) ++ (strOfNums y176)).toList)) else (none))) = some r := H
                      have A41 := Aside0.mk A410
                      clear A410
                      obtain ⟨y176, hy176⟩ : ∃ y_ : List Int, y_ = (([(t175) % 256] : List Int)) := ⟨_, rfl⟩
                      replace H : (if ((strOfNums y172) ++ a3).size + (strOfNums y176).size ≤ 9223372036854775807 then (signalboxlaw40_GuardSeals.j2 kj24 a0 a1 a2 a3 t165 ((strOfNums y172) ++ a3) (t165.toList != (((strOfNums y172) ++ a3) ++ (strOfNums y176)).toList)) else (none)) = some r := by first | (rw [hy176]; with_reducible exact H) | (have H2_ := (Option.bind_some _ _).symm.trans H; rw [hy176]; with_reducible exact H2_) | (have H2_ := (Option.bind_some _ _).symm.trans H; with_reducible exact H2_) | with_reducible exact H | (rw [hy176]; exact H) | exact H
                      have Ny176 := Aside0.mk hy176
                      clear hy176
                      by_cases c42 : ((strOfNums y172) ++ a3).size + (strOfNums y176).size ≤ 9223372036854775807
                      · rw [if_pos c42] at H
                        have c42b0 := eq_true c42
                        have c42b1 : decide (((strOfNums y172) ++ a3).size + (strOfNums y176).size ≤ 9223372036854775807) = true := decide_eq_true c42
                        try have c42b2 : (9223372036854775807 < ((strOfNums y172) ++ a3).size + (strOfNums y176).size) = False := eq_false (Nat.not_lt.2 c42)
                        have c42b3 := c42b2; simp only [ByteArray.size_append] at c42b3
                        have H' := Aside0.mk H
                        clear H
                        go_wp2_with (first | (go_at_call 15; (with_reducible refine (signalboxref40_Check.calls kj24 a0 ((strOfNums y172) ++ a3) t175 _ A41.out).mono ?_); rintro e w43 ⟨rfl, hb⟩; have n0_ := Aside0.mk (Kd.R_below (by (with_reducible repeat (first | apply Kd.R_alloc | apply Kd.R_drewN | apply Kd.R_drew)); exact HO174.out) hb); have n1_ := Aside0.mk (below_step (by repeat (first | (with_reducible first | exact HB.out | apply below_alloc | apply pw_below_drewN | apply below_drew1) | exact HB.out)) hb); clear HO174; clear HB; have HO174 := n0_; have HB := n1_; clear n0_ n1_; (try clear hb); (try clear hb2); (try clear hk); (try clear hi)) | ((with_reducible refine gate_dst (N := 104) rfl ?_); (try (refine gate_guard (by rfl) ?_; dsimp only)); refine Kd.R_lit (Kd.int .u8) _ 5 ?hg (N := 104) ?hd (xs := ([(t175) % 256] : List Int)) (inner := [.int .u8 ((t175) % 256)]) (ok := fun _ => True) (okp := fun _ => True) ?hr ?hp (fun _ hk => hk) trivial (Below.refl _ _) (Nat.le_refl _) (by simp) ?_; (case hd => rfl); (case hg => rfl); (case hr => first | (go_simp; done) | (go_simp; rfl)); (case hp => exact (Reps.one (show Kd.M (Kd.int .u8) _ _ _ ((t175) % 256) [.int .u8 ((t175) % 256)] from rfl) (Reps.none _ _))); intro v177 w44 ho45 hb hg_ hnew_; clear hg_ hnew_; (first | rw [← Ny176.out] at ho45 | (simp only [Int.reduceToNat] at ho45; rw [← Ny176.out] at ho45)); have n0_ := Aside0.mk (Kd.R_elder' (by (with_reducible repeat (first | apply Kd.R_alloc | apply Kd.R_drewN | apply Kd.R_drew)); exact HO174.out) (Kd.R_base ho45) hb); have n1_ := Aside0.mk (Kd.R_lower (Kd.R_new' ho45 (Kd.R_lt (by (with_reducible repeat (first | apply Kd.R_alloc | apply Kd.R_drewN | apply Kd.R_drew)); exact HO174.out))) (below_size (by repeat (first | (with_reducible first | exact HB.out | apply below_alloc | apply pw_below_drewN | apply below_drew1) | exact HB.out)))); have n2_ := Aside0.mk (below_step (by repeat (first | (with_reducible first | exact HB.out | apply below_alloc | apply pw_below_drewN | apply below_drew1) | exact HB.out)) hb); clear HO174; clear HB; have HO174 := n0_; have HO178 := n1_; have HB := n2_; clear n0_ n1_ n2_; clear hb ho45; have hcv46 := own_string (P := Try.prog) Try.underlying29 Try.underlying5 Try.underlying9 (Kd.own_of_R HO178.out)))
                        go_meet
                        case rel => exact ⟨_, ((t165.toList != (((strOfNums y172) ++ a3) ++ (strOfNums y176)).toList)), (by first | rfl | (simp; done) | (simp [*]; done)), H', ⟨by have := HJ9.out; have := HJ24.out; first | omega | exact Nat.le_refl _⟩, ⟨by repeat (first | (with_reducible first | exact HB.out | apply below_alloc | apply pw_below_drewN | apply below_drew1) | exact HB.out)⟩⟩
                      · rw [if_neg c42] at H
                        exact absurd H (by simp)
                    · rw [if_neg c40] at H
                      have c40b0 : (t166 == 0) = false := beq_eq_false_iff_ne.mpr c40
                      have c40b1 : (t166 != 0) = true := bne_iff_ne.mpr c40
                      (first | rw [c40b0] | (simp only [i64_w, i32_w]; rw [c40b0]) | skip)
                      have H' := Aside0.mk H
                      clear H
                      go_wp2
                      go_meet
                      case rel => exact ⟨_, (true), (by first | rfl | (simp; done) | (simp [*]; done)), H', ⟨by have := HJ9.out; have := HJ24.out; first | omega | exact Nat.le_refl _⟩, ⟨by repeat (first | (with_reducible first | exact HB.out | apply below_alloc | apply pw_below_drewN | apply below_drew1) | exact HB.out)⟩⟩
                  case rest =>
                    clear HC36
                    try clear c1
                    try clear c2
                    try clear p2
                    try clear c3
                    try clear hcv3
                    try clear c4
                    try clear hcv4
                    try clear c5
                    try clear c5b0
                    try clear c5b1
                    try clear c12
                    try clear c13
                    try clear c14
                    try clear c14b0
                    try clear c14b1
                    try clear c14b2
                    try clear c15
                    try clear c16
                    try clear c18
                    try clear c18b0
                    try clear c18b1
                    try clear c24
                    try clear c26
                    try clear c26b0
                    try clear c27
                    try clear c27b0
                    try clear c28
                    try clear c28b0
                    try clear c29
                    try clear c29b0
                    try clear c30
                    try clear c31
                    try clear c31b0
                    try clear c31b1
                    try clear c32
                    try clear c32b0
                    try clear c32b1
                    try clear c35
                    try clear c35b0
                    try clear c35b1
                    try clear c35b2
                    try clear hcv39
                    try clear c40
                    try clear c40b0
                    try clear c40b1
                    try clear c42
                    try clear c42b0
                    try clear c42b1
                    try clear c42b2
                    try clear hcv46
                    try clear p2
                    obtain ⟨kq, x108_35, rfl, HA, HJ35, HB⟩ := hcut
                    cases kq with
                    | zero => exact absurd HA.out (by simp [signalboxlaw40_GuardSeals.j2])
                    | succ kj35 =>
                      have H := HA.out
                      clear HA
                      simp only [signalboxlaw40_GuardSeals.j2] at H
                      by_cases c47 : x108_35 = true
                      · subst c47
                        have H1 : (some false) = some r := by rw [if_pos rfl] at H; exact H
                        clear H
                        have H := H1
                        clear H1
                        obtain rfl := Option.some.inj H
                        go_wp2
                        go_ret
                        exact ⟨by first | rfl | (simp [errW_none, errW_some] <;> rfl) | (simp [*, errW_none, errW_some] <;> rfl), by repeat (first | (with_reducible first | exact HB.out | apply below_alloc | apply pw_below_drewN | apply below_drew1) | exact HB.out)⟩
                      · replace c47 := Bool.eq_false_iff.mpr c47
                        subst c47
                        have H1 : ((guard_Open.f kj35 a0 t165).bind fun bt179 => ((guard_Open.f kj35 a1 t165).bind fun bt182 => (if bt179.1 = a2 then (if bt179.2.1.toList = a3.toList then (if bt179.2.2 = 0 then ((signalboxref40_Check.f kj35 a1 ((strOfNums y172) ++ a3)).bind fun t185 => ((signalboxref40_Check.f kj35 a0 ((strOfNums y172) ++ a3)).bind fun t186 => (if ((bt182.2.2 == 0) == (t185 == t186)) = true then ((signalboxlaw40_alive.f kj35).bind fun t187 => (some t187)) else (some false)))) else (some false)) else (some false)) else (some false)))) = some r := by rw [if_neg (show ¬ (false = true) by decide)] at H; exact H
                        clear H
                        have H := H1
                        clear H1
                        replace H := Option.bind_eq_some_iff.mp H
                        obtain ⟨⟨t179, t180, t181⟩, A480, H⟩ := H
                        replace H : ((guard_Open.f kj35 a1 t165).bind fun bt182 => (if t179 = a2 then (if t180.toList = a3.toList then (if t181 = 0 then ((signalboxref40_Check.f kj35 a1 ((strOfNums y172) ++ a3)).bind fun t185 => ((signalboxref40_Check.f kj35 a0 ((strOfNums y172) ++ a3)).bind fun t186 => (if ((bt182.2.2 == 0) == (t185 == t186)) = true then ((signalboxlaw40_alive.f kj35).bind fun t187 => (some t187)) else (some false)))) else (some false)) else (some false)) else (some false))) = some r := H
                        have A48 := Aside0.mk A480
                        clear A480
                        replace H := Option.bind_eq_some_iff.mp H
                        obtain ⟨⟨t182, t183, t184⟩, A490, H⟩ := H
                        replace H : (if t179 = a2 then (if t180.toList = a3.toList then (if t181 = 0 then ((signalboxref40_Check.f kj35 a1 ((strOfNums y172) ++ a3)).bind fun t185 => ((signalboxref40_Check.f kj35 a0 ((strOfNums y172) ++ a3)).bind fun t186 => (if ((t184 == 0) == (t185 == t186)) = true then ((signalboxlaw40_alive.f kj35).bind fun t187 => (some t187)) else (some false)))) else (some false)) else (some false)) else (some false)) = some r := H
                        have A49 := Aside0.mk A490
                        clear A490
                        by_cases c50 : t179 = a2
                        · rw [if_pos c50] at H
                          have c50b0 : (t179 == a2) = true := beq_iff_eq.mpr c50
                          have c50b1 : (t179 != a2) = false := bne_eq_false_iff_eq.mpr c50
                          clear c50
                          by_cases c51 : t180.toList = a3.toList
                          · rw [if_pos c51] at H
                            have c51b0 : (t180.toList == a3.toList) = true := beq_iff_eq.mpr c51
                            have c51b1 : (t180.toList != a3.toList) = false := bne_eq_false_iff_eq.mpr c51
                            clear c51
                            by_cases c52 : t181 = 0
                            · rw [if_pos c52] at H
                              have c52b0 : (t181 == 0) = true := beq_iff_eq.mpr c52
                              have c52b1 : (t181 != 0) = false := bne_eq_false_iff_eq.mpr c52
                              clear c52
                              replace H := Option.bind_eq_some_iff.mp H
                              obtain ⟨t185, A530, H⟩ := H
                              replace H : ((signalboxref40_Check.f kj35 a0 ((strOfNums y172) ++ a3)).bind fun t186 => (if ((t184 == 0) == (t185 == t186)) = true then ((signalboxlaw40_alive.f kj35).bind fun t187 => (some t187)) else (some false))) = some r := H
                              have A53 := Aside0.mk A530
                              clear A530
                              replace H := Option.bind_eq_some_iff.mp H
                              obtain ⟨t186, A540, H⟩ := H
                              replace H : (if ((t184 == 0) == (t185 == t186)) = true then ((signalboxlaw40_alive.f kj35).bind fun t187 => (some t187)) else (some false)) = some r := H
                              have A54 := Aside0.mk A540
                              clear A540
                              by_cases c55 : ((t184 == 0) == (t185 == t186)) = true
                              · rw [if_pos c55] at H
                                have c55b0 : ((t184 == 0) == (t185 == t186)) = true := c55
                                (try (have c55b1 : decide ((t184 == 0) = (t185 == t186)) = true := by simpa using c55))
                                (try (have c55b2 : ((t184 == 0) == (t185 == t186)) = true := by simpa using c55))
                                clear c55
                                replace H := Option.bind_eq_some_iff.mp H
                                obtain ⟨t187, A560, H⟩ := H
                                replace H : (some t187) = some r := H
                                have A56 := Aside0.mk A560
                                clear A560
                                obtain rfl := Option.some.inj H
                                go_wp2_with (first | ((with_reducible refine gate_callee (f := 16) rfl ?_); refine goesL_ (some 112) rfl rfl Try.func16 (by kernel_rfl) rfl #[.int .i64 a0, .string t165] rfl (by (try simp only [List.map_toArray, List.map_cons, List.map_nil]); first | done | rfl | (simp only [List.length_drop, List.length_take]; rfl)) ?_; (with_reducible refine (guard_Open.calls kj35 a0 t165 t179 t180 t181 _ A48.out).mono ?_); rintro e w57 ⟨rfl, hb⟩; refine ⟨_, rfl, ?_⟩; have n0_ := Aside0.mk (below_step (by repeat (first | (with_reducible first | exact HB.out | apply below_alloc | apply pw_below_drewN | apply below_drew1) | exact HB.out)) hb); clear HB; have HB := n0_; clear n0_; (try clear hb); (try clear hb2); (try clear hk); (try clear hi)) | ((with_reducible refine gate_callee (f := 16) rfl ?_); refine goesL_ (some 119) rfl rfl Try.func16 (by kernel_rfl) rfl #[.int .i64 a1, .string t165] rfl (by (try simp only [List.map_toArray, List.map_cons, List.map_nil]); first | done | rfl | (simp only [List.length_drop, List.length_take]; rfl)) ?_; (with_reducible refine (guard_Open.calls kj35 a1 t165 t182 t183 t184 _ A49.out).mono ?_); rintro e w58 ⟨rfl, hb⟩; refine ⟨_, rfl, ?_⟩; have n0_ := Aside0.mk (below_step (by repeat (first | (with_reducible first | exact HB.out | apply below_alloc | apply pw_below_drewN | apply below_drew1) | exact HB.out)) hb); clear HB; have HB := n0_; clear n0_; (try clear hb); (try clear hb2); (try clear hk); (try clear hi)) | (go_at_call 15; (with_reducible refine (signalboxref40_Check.calls kj35 a1 ((strOfNums y172) ++ a3) t185 _ A53.out).mono ?_); rintro e w59 ⟨rfl, hb⟩; have n0_ := Aside0.mk (below_step (by repeat (first | (with_reducible first | exact HB.out | apply below_alloc | apply pw_below_drewN | apply below_drew1) | exact HB.out)) hb); clear HB; have HB := n0_; clear n0_; (try clear hb); (try clear hb2); (try clear hk); (try clear hi)) | (go_at_call 15; (with_reducible refine (signalboxref40_Check.calls kj35 a0 ((strOfNums y172) ++ a3) t186 _ A54.out).mono ?_); rintro e w60 ⟨rfl, hb⟩; have n0_ := Aside0.mk (below_step (by repeat (first | (with_reducible first | exact HB.out | apply below_alloc | apply pw_below_drewN | apply below_drew1) | exact HB.out)) hb); clear HB; have HB := n0_; clear n0_; (try clear hb); (try clear hb2); (try clear hk); (try clear hi)) | (go_at_call 12; (with_reducible refine (signalboxlaw40_alive.calls kj35  t187 _ A56.out).mono ?_); rintro e w61 ⟨rfl, hb⟩; have n0_ := Aside0.mk (below_step (by repeat (first | (with_reducible first | exact HB.out | apply below_alloc | apply pw_below_drewN | apply below_drew1) | exact HB.out)) hb); clear HB; have HB := n0_; clear n0_; (try clear hb); (try clear hb2); (try clear hk); (try clear hi)))
                                go_ret
                                exact ⟨by first | rfl | (simp [errW_none, errW_some] <;> rfl) | (simp [*, errW_none, errW_some] <;> rfl), by repeat (first | (with_reducible first | exact HB.out | apply below_alloc | apply pw_below_drewN | apply below_drew1) | exact HB.out)⟩
                              · rw [if_neg c55] at H
                                have c55b0 : ((t184 == 0) == (t185 == t186)) = false := by simpa using c55
                                (try (have c55b1 : decide ((t184 == 0) = (t185 == t186)) = false := by simpa using c55))
                                (try (have c55b2 : ((t184 == 0) == (t185 == t186)) = false := by simpa using c55))
                                (try (have c55b3 : ¬ ((t184 == 0) = (t185 == t186)) := by simpa using c55))
                                clear c55
                                obtain rfl := Option.some.inj H
                                go_wp2_with (first | ((with_reducible refine gate_callee (f := 16) rfl ?_); refine goesL_ (some 112) rfl rfl Try.func16 (by kernel_rfl) rfl #[.int .i64 a0, .string t165] rfl (by (try simp only [List.map_toArray, List.map_cons, List.map_nil]); first | done | rfl | (simp only [List.length_drop, List.length_take]; rfl)) ?_; (with_reducible refine (guard_Open.calls kj35 a0 t165 t179 t180 t181 _ A48.out).mono ?_); rintro e w62 ⟨rfl, hb⟩; refine ⟨_, rfl, ?_⟩; have n0_ := Aside0.mk (below_step (by repeat (first | (with_reducible first | exact HB.out | apply below_alloc | apply pw_below_drewN | apply below_drew1) | exact HB.out)) hb); clear HB; have HB := n0_; clear n0_; (try clear hb); (try clear hb2); (try clear hk); (try clear hi)) | ((with_reducible refine gate_callee (f := 16) rfl ?_); refine goesL_ (some 119) rfl rfl Try.func16 (by kernel_rfl) rfl #[.int .i64 a1, .string t165] rfl (by (try simp only [List.map_toArray, List.map_cons, List.map_nil]); first | done | rfl | (simp only [List.length_drop, List.length_take]; rfl)) ?_; (with_reducible refine (guard_Open.calls kj35 a1 t165 t182 t183 t184 _ A49.out).mono ?_); rintro e w63 ⟨rfl, hb⟩; refine ⟨_, rfl, ?_⟩; have n0_ := Aside0.mk (below_step (by repeat (first | (with_reducible first | exact HB.out | apply below_alloc | apply pw_below_drewN | apply below_drew1) | exact HB.out)) hb); clear HB; have HB := n0_; clear n0_; (try clear hb); (try clear hb2); (try clear hk); (try clear hi)) | (go_at_call 15; (with_reducible refine (signalboxref40_Check.calls kj35 a1 ((strOfNums y172) ++ a3) t185 _ A53.out).mono ?_); rintro e w64 ⟨rfl, hb⟩; have n0_ := Aside0.mk (below_step (by repeat (first | (with_reducible first | exact HB.out | apply below_alloc | apply pw_below_drewN | apply below_drew1) | exact HB.out)) hb); clear HB; have HB := n0_; clear n0_; (try clear hb); (try clear hb2); (try clear hk); (try clear hi)) | (go_at_call 15; (with_reducible refine (signalboxref40_Check.calls kj35 a0 ((strOfNums y172) ++ a3) t186 _ A54.out).mono ?_); rintro e w65 ⟨rfl, hb⟩; have n0_ := Aside0.mk (below_step (by repeat (first | (with_reducible first | exact HB.out | apply below_alloc | apply pw_below_drewN | apply below_drew1) | exact HB.out)) hb); clear HB; have HB := n0_; clear n0_; (try clear hb); (try clear hb2); (try clear hk); (try clear hi)))
                                go_ret
                                exact ⟨by first | rfl | (simp [errW_none, errW_some] <;> rfl) | (simp [*, errW_none, errW_some] <;> rfl), by repeat (first | (with_reducible first | exact HB.out | apply below_alloc | apply pw_below_drewN | apply below_drew1) | exact HB.out)⟩
                            · rw [if_neg c52] at H
                              have c52b0 : (t181 == 0) = false := beq_eq_false_iff_ne.mpr c52
                              have c52b1 : (t181 != 0) = true := bne_iff_ne.mpr c52
                              obtain rfl := Option.some.inj H
                              go_wp2_with (first | ((with_reducible refine gate_callee (f := 16) rfl ?_); refine goesL_ (some 112) rfl rfl Try.func16 (by kernel_rfl) rfl #[.int .i64 a0, .string t165] rfl (by (try simp only [List.map_toArray, List.map_cons, List.map_nil]); first | done | rfl | (simp only [List.length_drop, List.length_take]; rfl)) ?_; (with_reducible refine (guard_Open.calls kj35 a0 t165 t179 t180 t181 _ A48.out).mono ?_); rintro e w66 ⟨rfl, hb⟩; refine ⟨_, rfl, ?_⟩; have n0_ := Aside0.mk (below_step (by repeat (first | (with_reducible first | exact HB.out | apply below_alloc | apply pw_below_drewN | apply below_drew1) | exact HB.out)) hb); clear HB; have HB := n0_; clear n0_; (try clear hb); (try clear hb2); (try clear hk); (try clear hi)) | ((with_reducible refine gate_callee (f := 16) rfl ?_); refine goesL_ (some 119) rfl rfl Try.func16 (by kernel_rfl) rfl #[.int .i64 a1, .string t165] rfl (by (try simp only [List.map_toArray, List.map_cons, List.map_nil]); first | done | rfl | (simp only [List.length_drop, List.length_take]; rfl)) ?_; (with_reducible refine (guard_Open.calls kj35 a1 t165 t182 t183 t184 _ A49.out).mono ?_); rintro e w67 ⟨rfl, hb⟩; refine ⟨_, rfl, ?_⟩; have n0_ := Aside0.mk (below_step (by repeat (first | (with_reducible first | exact HB.out | apply below_alloc | apply pw_below_drewN | apply below_drew1) | exact HB.out)) hb); clear HB; have HB := n0_; clear n0_; (try clear hb); (try clear hb2); (try clear hk); (try clear hi)))
                              go_ret
                              exact ⟨by first | rfl | (simp [errW_none, errW_some] <;> rfl) | (simp [*, errW_none, errW_some] <;> rfl), by repeat (first | (with_reducible first | exact HB.out | apply below_alloc | apply pw_below_drewN | apply below_drew1) | exact HB.out)⟩
                          · rw [if_neg c51] at H
                            have c51b0 : (t180.toList == a3.toList) = false := beq_eq_false_iff_ne.mpr c51
                            have c51b1 : (t180.toList != a3.toList) = true := bne_iff_ne.mpr c51
                            obtain rfl := Option.some.inj H
                            go_wp2_with (first | ((with_reducible refine gate_callee (f := 16) rfl ?_); refine goesL_ (some 112) rfl rfl Try.func16 (by kernel_rfl) rfl #[.int .i64 a0, .string t165] rfl (by (try simp only [List.map_toArray, List.map_cons, List.map_nil]); first | done | rfl | (simp only [List.length_drop, List.length_take]; rfl)) ?_; (with_reducible refine (guard_Open.calls kj35 a0 t165 t179 t180 t181 _ A48.out).mono ?_); rintro e w68 ⟨rfl, hb⟩; refine ⟨_, rfl, ?_⟩; have n0_ := Aside0.mk (below_step (by repeat (first | (with_reducible first | exact HB.out | apply below_alloc | apply pw_below_drewN | apply below_drew1) | exact HB.out)) hb); clear HB; have HB := n0_; clear n0_; (try clear hb); (try clear hb2); (try clear hk); (try clear hi)) | ((with_reducible refine gate_callee (f := 16) rfl ?_); refine goesL_ (some 119) rfl rfl Try.func16 (by kernel_rfl) rfl #[.int .i64 a1, .string t165] rfl (by (try simp only [List.map_toArray, List.map_cons, List.map_nil]); first | done | rfl | (simp only [List.length_drop, List.length_take]; rfl)) ?_; (with_reducible refine (guard_Open.calls kj35 a1 t165 t182 t183 t184 _ A49.out).mono ?_); rintro e w69 ⟨rfl, hb⟩; refine ⟨_, rfl, ?_⟩; have n0_ := Aside0.mk (below_step (by repeat (first | (with_reducible first | exact HB.out | apply below_alloc | apply pw_below_drewN | apply below_drew1) | exact HB.out)) hb); clear HB; have HB := n0_; clear n0_; (try clear hb); (try clear hb2); (try clear hk); (try clear hi)))
                            go_ret
                            exact ⟨by first | rfl | (simp [errW_none, errW_some] <;> rfl) | (simp [*, errW_none, errW_some] <;> rfl), by repeat (first | (with_reducible first | exact HB.out | apply below_alloc | apply pw_below_drewN | apply below_drew1) | exact HB.out)⟩
                        · rw [if_neg c50] at H
                          have c50b0 : (t179 == a2) = false := beq_eq_false_iff_ne.mpr c50
                          have c50b1 : (t179 != a2) = true := bne_iff_ne.mpr c50
                          obtain rfl := Option.some.inj H
                          go_wp2_with (first | ((with_reducible refine gate_callee (f := 16) rfl ?_); refine goesL_ (some 112) rfl rfl Try.func16 (by kernel_rfl) rfl #[.int .i64 a0, .string t165] rfl (by (try simp only [List.map_toArray, List.map_cons, List.map_nil]); first | done | rfl | (simp only [List.length_drop, List.length_take]; rfl)) ?_; (with_reducible refine (guard_Open.calls kj35 a0 t165 t179 t180 t181 _ A48.out).mono ?_); rintro e w70 ⟨rfl, hb⟩; refine ⟨_, rfl, ?_⟩; have n0_ := Aside0.mk (below_step (by repeat (first | (with_reducible first | exact HB.out | apply below_alloc | apply pw_below_drewN | apply below_drew1) | exact HB.out)) hb); clear HB; have HB := n0_; clear n0_; (try clear hb); (try clear hb2); (try clear hk); (try clear hi)) | ((with_reducible refine gate_callee (f := 16) rfl ?_); refine goesL_ (some 119) rfl rfl Try.func16 (by kernel_rfl) rfl #[.int .i64 a1, .string t165] rfl (by (try simp only [List.map_toArray, List.map_cons, List.map_nil]); first | done | rfl | (simp only [List.length_drop, List.length_take]; rfl)) ?_; (with_reducible refine (guard_Open.calls kj35 a1 t165 t182 t183 t184 _ A49.out).mono ?_); rintro e w71 ⟨rfl, hb⟩; refine ⟨_, rfl, ?_⟩; have n0_ := Aside0.mk (below_step (by repeat (first | (with_reducible first | exact HB.out | apply below_alloc | apply pw_below_drewN | apply below_drew1) | exact HB.out)) hb); clear HB; have HB := n0_; clear n0_; (try clear hb); (try clear hb2); (try clear hk); (try clear hi)))
                          go_ret
                          exact ⟨by first | rfl | (simp [errW_none, errW_some] <;> rfl) | (simp [*, errW_none, errW_some] <;> rfl), by repeat (first | (with_reducible first | exact HB.out | apply below_alloc | apply pw_below_drewN | apply below_drew1) | exact HB.out)⟩
                · rw [if_neg c35] at H
                  exact absurd H (by simp)

/-- THE ONE PURE STATEMENT of signalboxlaw40_GuardSeals: yours. -/
def signalboxlaw40_GuardSeals.Pure : Prop := ∀ (a0 : Int) (a1 : Int) (a2 : Int) (a3 : ByteArray), (Lit.int .i64 a0).wf = true → (Lit.int .i64 a1).wf = true → (Lit.int .i64 a2).wf = true → a3.size ≤ 140737488351232 → ∃ k, signalboxlaw40_GuardSeals.f k a0 a1 a2 a3 = some true
theorem signalboxlaw40_GuardSeals.walk (P : signalboxlaw40_GuardSeals.Pure) (a0 : Int) (a1 : Int) (a2 : Int) (a3 : ByteArray) (w : World) (w0 : (Lit.int .i64 a0).wf = true) (w1 : (Lit.int .i64 a1).wf = true) (w2 : (Lit.int .i64 a2).wf = true) (w3 : a3.size ≤ 140737488351232) :
    Calls Try.prog 3 #[.int .i64 a0, .int .i64 a1, .int .i64 a2, .string a3] w fun e w' => e = .returned (.bool true) ∧ Below w.heap.size w w' := by
  obtain ⟨k, h⟩ := P a0 a1 a2 a3 w0 w1 w2 w3
  refine (signalboxlaw40_GuardSeals.calls k a0 a1 a2 a3 true w h).mono ?_
  rintro e w' ⟨rfl, hd⟩
  exact ⟨rfl, hd⟩

end Go.Proofs.Ythgnhhdblbiihaa.P
