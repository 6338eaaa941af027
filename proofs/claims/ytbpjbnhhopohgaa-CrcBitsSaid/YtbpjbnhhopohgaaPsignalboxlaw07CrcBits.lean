/- Printed for this claim by a program of the session (wip/gp.py, which drives the kit's printer): a Go function as a plain Lean function, and that its call answers it, wherever that function answers; no other conditions. -/
import Derived.Test.YtbpjbnhhopohgaaP0
import Derived.Test.YtbpjbnhhopohgaaPsignalboxlaw07alive
import Derived.Test.YtbpjbnhhopohgaaPsignalboxref07Number
import Derived.Test.YtbpjbnhhopohgaaPsignalboxref07Bits
import Derived.Test.YtbpjbnhhopohgaaPsignalboxref07Add
import Derived.Test.YtbpjbnhhopohgaaGAdd
import Derived.Test.YtbpjbnhhopohgaaGCBits
import Derived.Test.YtbpjbnhhopohgaaGNumber
namespace Go.Proofs.Ytbpjbnhhopohgaa.P
open Go.RowKit Go.Proofs.YtbpjbnhhopohgaaW.PrintWords Go.Proofs.YtbpjbnhhopohgaaW.PrintLast Go.Proofs.YtbpjbnhhopohgaaW.PrintMore
attribute [local go_sem] max2_int min2_int max_two min_two max_three min_three max_four min_four   -- for this text's walks alone
set_option linter.unusedVariables false
set_option linter.unusedSimpArgs false

/-! ### signalboxlaw07_CrcBits: function 8 -/
mutual
def signalboxlaw07_CrcBits.j0 : Nat → Int → Int → ByteArray → ByteArray → Bool → Option (Bool)
  | 0, _, _, _, _, _ => none
  | k + 1, x0, x1, x2, x3, x23 => if x23 = true then ((signalboxlaw07_alive.f).bind fun t178 => (some t178)) else ((crc_Bits.f x0 x1).bind fun t179 => ((crc_Number.f x2).bind fun bt180 => ((signalboxref07_Number.f k x2).bind fun bt182 => ((signalboxref07_Bits.f k x0 x1).bind fun t184 => (if t179.toList = t184.toList then (if bt180.1 = bt182.1 then (if (bt180.2 != bt182.2) = true then (signalboxlaw07_CrcBits.j1 k x0 x1 x2 t179 bt180.1 bt180.2 true) else ((crc_Add.f x2 x3).bind fun t185 => ((signalboxref07_Add.f k x2 x3).bind fun t186 => (signalboxlaw07_CrcBits.j1 k x0 x1 x2 t179 bt180.1 bt180.2 (t185.toList != t186.toList))))) else (signalboxlaw07_CrcBits.j1 k x0 x1 x2 t179 bt180.1 bt180.2 true)) else (signalboxlaw07_CrcBits.j1 k x0 x1 x2 t179 bt180.1 bt180.2 true))))))
def signalboxlaw07_CrcBits.j1 : Nat → Int → Int → ByteArray → ByteArray → Int → Bool → Bool → Option (Bool)
  | 0, _, _, _, _, _, _, _ => none
  | k + 1, x0, x1, x2, x9, x10, x11, x61 => if x61 = true then (some false) else (if x0 ≥ 0 then (if x1 ≥ 0 then (if x1 ≤ 60 then (if 0 ≤ x1 then (signalboxlaw07_CrcBits.j2 k x0 x2 x9 x10 x11 (decide (x0 < (shl .i64 1 x1)))) else (none)) else (signalboxlaw07_CrcBits.j2 k x0 x2 x9 x10 x11 false)) else (signalboxlaw07_CrcBits.j2 k x0 x2 x9 x10 x11 false)) else (signalboxlaw07_CrcBits.j2 k x0 x2 x9 x10 x11 false))
def signalboxlaw07_CrcBits.j2 : Nat → Int → ByteArray → ByteArray → Int → Bool → Bool → Option (Bool)
  | 0, _, _, _, _, _, _ => none
  | k + 1, x0, x2, x9, x10, x11, x77 => if x77 = true then ((crc_Number.f x9).bind fun bt187 => (if bt187.1 = x0 then (if bt187.2 = true then ((signalboxlaw07_alive.f).bind fun t189 => (some t189)) else (some false)) else (some false))) else (if x11 = true then ((crc_Bits.f x10 (x2.size : Int)).bind fun t190 => (if t190.toList = x2.toList then ((signalboxlaw07_alive.f).bind fun t191 => (some t191)) else (some false))) else ((signalboxlaw07_alive.f).bind fun t192 => (some t192)))
end
def signalboxlaw07_CrcBits.f (k : Nat) (a0 : Int) (a1 : Int) (a2 : ByteArray) (a3 : ByteArray) : Option (Bool) := if (a2.size : Int) > 200 then (signalboxlaw07_CrcBits.j0 k a0 a1 a2 a3 true) else (signalboxlaw07_CrcBits.j0 k a0 a1 a2 a3 (decide ((a3.size : Int) > 200)))
theorem signalboxlaw07_CrcBits.mono_l : ∀ k, (∀ y0 y1 y2 y3 y4, LeO (signalboxlaw07_CrcBits.j0 k y0 y1 y2 y3 y4) (signalboxlaw07_CrcBits.j0 (k + 1) y0 y1 y2 y3 y4)) ∧ (∀ y0 y1 y2 y3 y4 y5 y6, LeO (signalboxlaw07_CrcBits.j1 k y0 y1 y2 y3 y4 y5 y6) (signalboxlaw07_CrcBits.j1 (k + 1) y0 y1 y2 y3 y4 y5 y6)) ∧ (∀ y0 y1 y2 y3 y4 y5, LeO (signalboxlaw07_CrcBits.j2 k y0 y1 y2 y3 y4 y5) (signalboxlaw07_CrcBits.j2 (k + 1) y0 y1 y2 y3 y4 y5))
  | 0 => ⟨fun _ _ _ _ _ r h => by simp [signalboxlaw07_CrcBits.j0] at h, fun _ _ _ _ _ _ _ r h => by simp [signalboxlaw07_CrcBits.j1] at h, fun _ _ _ _ _ _ r h => by simp [signalboxlaw07_CrcBits.j2] at h⟩
  | k + 1 => by
    obtain ⟨ih0, ih1, ih2⟩ := signalboxlaw07_CrcBits.mono_l k
    refine ⟨?_, ?_, ?_⟩
    · intro y0 y1 y2 y3 y4
      unfold signalboxlaw07_CrcBits.j0
      repeat' first
      | (with_reducible exact ih0 _ _ _ _ _)
      | (with_reducible exact ih1 _ _ _ _ _ _ _)
      | (with_reducible exact ih2 _ _ _ _ _ _)
      | (with_reducible exact signalboxref07_Add.mono _ _ _)
      | (with_reducible exact signalboxref07_Bits.mono _ _ _)
      | (with_reducible exact signalboxref07_Number.mono _ _)
      | (with_reducible exact LeO.refl _)
      | (with_reducible exact LeO.none _)
      | (with_reducible refine LeO.ite ?_ ?_)
      | (with_reducible refine LeO.bind ?_ (fun _ => ?_))
      | exact ih0 _ _ _ _ _
      | exact ih1 _ _ _ _ _ _ _
      | exact ih2 _ _ _ _ _ _
      | exact signalboxref07_Add.mono _ _ _
      | exact signalboxref07_Bits.mono _ _ _
      | exact signalboxref07_Number.mono _ _
      | exact LeO.none _
      | refine LeO.ite ?_ ?_
      | refine LeO.bind ?_ (fun _ => ?_)
    · intro y0 y1 y2 y3 y4 y5 y6
      unfold signalboxlaw07_CrcBits.j1
      repeat' first
      | (with_reducible exact ih0 _ _ _ _ _)
      | (with_reducible exact ih1 _ _ _ _ _ _ _)
      | (with_reducible exact ih2 _ _ _ _ _ _)
      | (with_reducible exact signalboxref07_Add.mono _ _ _)
      | (with_reducible exact signalboxref07_Bits.mono _ _ _)
      | (with_reducible exact signalboxref07_Number.mono _ _)
      | (with_reducible exact LeO.refl _)
      | (with_reducible exact LeO.none _)
      | (with_reducible refine LeO.ite ?_ ?_)
      | (with_reducible refine LeO.bind ?_ (fun _ => ?_))
      | exact ih0 _ _ _ _ _
      | exact ih1 _ _ _ _ _ _ _
      | exact ih2 _ _ _ _ _ _
      | exact signalboxref07_Add.mono _ _ _
      | exact signalboxref07_Bits.mono _ _ _
      | exact signalboxref07_Number.mono _ _
      | exact LeO.none _
      | refine LeO.ite ?_ ?_
      | refine LeO.bind ?_ (fun _ => ?_)
    · intro y0 y1 y2 y3 y4 y5
      unfold signalboxlaw07_CrcBits.j2
      repeat' first
      | (with_reducible exact ih0 _ _ _ _ _)
      | (with_reducible exact ih1 _ _ _ _ _ _ _)
      | (with_reducible exact ih2 _ _ _ _ _ _)
      | (with_reducible exact signalboxref07_Add.mono _ _ _)
      | (with_reducible exact signalboxref07_Bits.mono _ _ _)
      | (with_reducible exact signalboxref07_Number.mono _ _)
      | (with_reducible exact LeO.refl _)
      | (with_reducible exact LeO.none _)
      | (with_reducible refine LeO.ite ?_ ?_)
      | (with_reducible refine LeO.bind ?_ (fun _ => ?_))
      | exact ih0 _ _ _ _ _
      | exact ih1 _ _ _ _ _ _ _
      | exact ih2 _ _ _ _ _ _
      | exact signalboxref07_Add.mono _ _ _
      | exact signalboxref07_Bits.mono _ _ _
      | exact signalboxref07_Number.mono _ _
      | exact LeO.none _
      | refine LeO.ite ?_ ?_
      | refine LeO.bind ?_ (fun _ => ?_)
theorem signalboxlaw07_CrcBits.mono : ∀ a0 a1 a2 a3 k, LeO (signalboxlaw07_CrcBits.f k a0 a1 a2 a3) (signalboxlaw07_CrcBits.f (k + 1) a0 a1 a2 a3) := by
  intro a0 a1 a2 a3 k
  obtain ⟨ih0, ih1, ih2⟩ := signalboxlaw07_CrcBits.mono_l k
  unfold signalboxlaw07_CrcBits.f
  repeat' first
      | (with_reducible exact ih0 _ _ _ _ _)
      | (with_reducible exact ih1 _ _ _ _ _ _ _)
      | (with_reducible exact ih2 _ _ _ _ _ _)
      | (with_reducible exact signalboxref07_Add.mono _ _ _)
      | (with_reducible exact signalboxref07_Bits.mono _ _ _)
      | (with_reducible exact signalboxref07_Number.mono _ _)
      | (with_reducible exact LeO.refl _)
      | (with_reducible exact LeO.none _)
      | (with_reducible refine LeO.ite ?_ ?_)
      | (with_reducible refine LeO.bind ?_ (fun _ => ?_))
      | exact ih0 _ _ _ _ _
      | exact ih1 _ _ _ _ _ _ _
      | exact ih2 _ _ _ _ _ _
      | exact signalboxref07_Add.mono _ _ _
      | exact signalboxref07_Bits.mono _ _ _
      | exact signalboxref07_Number.mono _ _
      | exact LeO.none _
      | refine LeO.ite ?_ ?_
      | refine LeO.bind ?_ (fun _ => ?_)
set_option maxHeartbeats 8000000 in
set_option maxRecDepth 100000 in
theorem signalboxlaw07_CrcBits.calls (k : Nat) (a0 : Int) (a1 : Int) (a2 : ByteArray) (a3 : ByteArray) (r : Bool) (w : World) (h : signalboxlaw07_CrcBits.f k a0 a1 a2 a3 = some r) :
    Calls Try.prog 8 #[.int .i64 a0, .int .i64 a1, .string a2, .string a3] w fun e w' => e = .returned (.bool r) ∧ Below w.heap.size w w' := by
  have HB := Aside0.mk (Below.refl w.heap.size w)
  have H : (if (a2.size : Int) > 200 then (signalboxlaw07_CrcBits.j0 k a0 a1 a2 a3 true) else (signalboxlaw07_CrcBits.j0 k a0 a1 a2 a3 (decide ((a3.size : Int) > 200)))) = some r := h
  clear h
  have HC5 := Aside0.mk H
  clear H
  go_enter Try.func8, Try.ntmps8
  go_upto_region 1 with (fail)
  go_cut [23] (fun v23 wc => ∃ (kq : Nat) (x23_4 : Bool), v23 = .bool x23_4 ∧ Aside0 (signalboxlaw07_CrcBits.j0 kq a0 a1 a2 a3 x23_4 = some r) ∧ Aside0 (kq ≤ k) ∧ Aside0 (Below w.heap.size w wc))
  case first =>
    have H := HC5.out
    clear HC5
    by_cases c6 : (a2.size : Int) > 200
    · rw [if_pos c6] at H
      have c6b0 : decide (200 < (a2.size : Int)) = true := decide_eq_true c6
      have c6b1 : decide (200 < a2.size) = true := decide_eq_true (by omega)
      clear c6
      (first | rw [c6b0] | (simp only [i64_w, i32_w]; rw [c6b0]) | skip)
      have H' := Aside0.mk H
      clear H
      go_wp2
      go_meet
      case rel => exact ⟨_, (true), (by first | rfl | (simp; done) | (simp [*]; done)), H', ⟨by first | omega | exact Nat.le_refl _⟩, ⟨by repeat (first | (with_reducible first | exact HB.out | apply below_alloc | apply pw_below_drewN | apply below_drew1) | exact HB.out)⟩⟩
    · rw [if_neg c6] at H
      have c6b0 : decide (200 < (a2.size : Int)) = false := decide_eq_false c6
      have c6b1 : decide (200 < a2.size) = false := decide_eq_false (by omega)
      clear c6
      (first | rw [c6b0] | (simp only [i64_w, i32_w]; rw [c6b0]) | skip)
      have H' := Aside0.mk H
      clear H
      go_wp2
      go_meet
      case rel => exact ⟨_, (decide ((a3.size : Int) > 200)), (by first | rfl | (simp; done) | (simp [*]; done)), H', ⟨by first | omega | exact Nat.le_refl _⟩, ⟨by repeat (first | (with_reducible first | exact HB.out | apply below_alloc | apply pw_below_drewN | apply below_drew1) | exact HB.out)⟩⟩
  case rest =>
    clear HC5
    try clear p2
    try clear c6
    try clear c6b0
    try clear c6b1
    obtain ⟨kq, x23_4, rfl, HA, HJ4, HB⟩ := hcut
    cases kq with
    | zero => exact absurd HA.out (by simp [signalboxlaw07_CrcBits.j0])
    | succ kj4 =>
      have H := HA.out
      clear HA
      simp only [signalboxlaw07_CrcBits.j0] at H
      by_cases c7 : x23_4 = true
      · subst c7
        have H1 : ((signalboxlaw07_alive.f).bind fun t178 => (some t178)) = some r := by rw [if_pos rfl] at H; exact H
        clear H
        have H := H1
        clear H1
        replace H := Option.bind_eq_some_iff.mp H
        obtain ⟨t178, A80, H⟩ := H
        replace H : (some t178) = some r := H
        have A8 := Aside0.mk A80
        clear A80
        obtain rfl := Option.some.inj H
        go_wp2_with (first | ((with_reducible refine gate_callee (f := 15) rfl ?_); refine goesL_ (some 24) rfl rfl Try.func15 (by kernel_rfl) rfl #[] rfl (by (try simp only [List.map_toArray, List.map_cons, List.map_nil]); first | done | rfl | (simp only [List.length_drop, List.length_take]; rfl)) ?_; (with_reducible refine (signalboxlaw07_alive.calls  t178 _ A8.out).mono ?_); rintro e w9 ⟨rfl, hb⟩; refine ⟨_, rfl, ?_⟩; have n0_ := Aside0.mk (below_step (by repeat (first | (with_reducible first | exact HB.out | apply below_alloc | apply pw_below_drewN | apply below_drew1) | exact HB.out)) hb); clear HB; have HB := n0_; clear n0_; (try clear hb); (try clear hb2); (try clear hk); (try clear hi)))
        go_ret
        exact ⟨by first | rfl | (simp [errW_none, errW_some] <;> rfl) | (simp [*, errW_none, errW_some] <;> rfl), by repeat (first | (with_reducible first | exact HB.out | apply below_alloc | apply pw_below_drewN | apply below_drew1) | exact HB.out)⟩
      · replace c7 := Bool.eq_false_iff.mpr c7
        subst c7
        have H1 : ((crc_Bits.f a0 a1).bind fun t179 => ((crc_Number.f a2).bind fun bt180 => ((signalboxref07_Number.f kj4 a2).bind fun bt182 => ((signalboxref07_Bits.f kj4 a0 a1).bind fun t184 => (if t179.toList = t184.toList then (if bt180.1 = bt182.1 then (if (bt180.2 != bt182.2) = true then (signalboxlaw07_CrcBits.j1 kj4 a0 a1 a2 t179 bt180.1 bt180.2 true) else ((crc_Add.f a2 a3).bind fun t185 => ((signalboxref07_Add.f kj4 a2 a3).bind fun t186 => (signalboxlaw07_CrcBits.j1 kj4 a0 a1 a2 t179 bt180.1 bt180.2 (t185.toList != t186.toList))))) else (signalboxlaw07_CrcBits.j1 kj4 a0 a1 a2 t179 bt180.1 bt180.2 true)) else (signalboxlaw07_CrcBits.j1 kj4 a0 a1 a2 t179 bt180.1 bt180.2 true)))))) = some r := by rw [if_neg (show ¬ (false = true) by decide)] at H; exact H
        clear H
        have H := H1
        clear H1
        replace H := Option.bind_eq_some_iff.mp H
        obtain ⟨t179, A100, H⟩ := H
        replace H : ((crc_Number.f a2).bind fun bt180 => ((signalboxref07_Number.f kj4 a2).bind fun bt182 => ((signalboxref07_Bits.f kj4 a0 a1).bind fun t184 => (if t179.toList = t184.toList then (if bt180.1 = bt182.1 then (if (bt180.2 != bt182.2) = true then (signalboxlaw07_CrcBits.j1 kj4 a0 a1 a2 t179 bt180.1 bt180.2 true) else ((crc_Add.f a2 a3).bind fun t185 => ((signalboxref07_Add.f kj4 a2 a3).bind fun t186 => (signalboxlaw07_CrcBits.j1 kj4 a0 a1 a2 t179 bt180.1 bt180.2 (t185.toList != t186.toList))))) else (signalboxlaw07_CrcBits.j1 kj4 a0 a1 a2 t179 bt180.1 bt180.2 true)) else (signalboxlaw07_CrcBits.j1 kj4 a0 a1 a2 t179 bt180.1 bt180.2 true))))) = some r := H
        have A10 := Aside0.mk A100
        clear A100
        replace H := Option.bind_eq_some_iff.mp H
        obtain ⟨⟨t180, t181⟩, A110, H⟩ := H
        replace H : ((signalboxref07_Number.f kj4 a2).bind fun bt182 => ((signalboxref07_Bits.f kj4 a0 a1).bind fun t184 => (if t179.toList = t184.toList then (if t180 = bt182.1 then (if (t181 != bt182.2) = true then (signalboxlaw07_CrcBits.j1 kj4 a0 a1 a2 t179 t180 t181 true) else ((crc_Add.f a2 a3).bind fun t185 => ((signalboxref07_Add.f kj4 a2 a3).bind fun t186 => (signalboxlaw07_CrcBits.j1 kj4 a0 a1 a2 t179 t180 t181 (t185.toList != t186.toList))))) else (signalboxlaw07_CrcBits.j1 kj4 a0 a1 a2 t179 t180 t181 true)) else (signalboxlaw07_CrcBits.j1 kj4 a0 a1 a2 t179 t180 t181 true)))) = some r := H
        have A11 := Aside0.mk A110
        clear A110
        replace H := Option.bind_eq_some_iff.mp H
        obtain ⟨⟨t182, t183⟩, A120, H⟩ := H
        replace H : ((signalboxref07_Bits.f kj4 a0 a1).bind fun t184 => (if t179.toList = t184.toList then (if t180 = t182 then (if (t181 != t183) = true then (signalboxlaw07_CrcBits.j1 kj4 a0 a1 a2 t179 t180 t181 true) else ((crc_Add.f a2 a3).bind fun t185 => ((signalboxref07_Add.f kj4 a2 a3).bind fun t186 => (signalboxlaw07_CrcBits.j1 kj4 a0 a1 a2 t179 t180 t181 (t185.toList != t186.toList))))) else (signalboxlaw07_CrcBits.j1 kj4 a0 a1 a2 t179 t180 t181 true)) else (signalboxlaw07_CrcBits.j1 kj4 a0 a1 a2 t179 t180 t181 true))) = some r := H
        have A12 := Aside0.mk A120
        clear A120
        have HC13 := Aside0.mk H
        clear H
        go_upto_region 6 with (first | ((with_reducible refine gate_callee (f := 19) rfl ?_); refine goesL_ (some 27) rfl rfl Try.func19 (by kernel_rfl) rfl #[.int .i64 a0, .int .i64 a1] rfl (by (try simp only [List.map_toArray, List.map_cons, List.map_nil]); first | done | rfl | (simp only [List.length_drop, List.length_take]; rfl)) ?_; (with_reducible refine (crc_Bits.calls a0 a1 t179 _ A10.out).mono ?_); rintro e w14 ⟨rfl, hb⟩; refine ⟨_, rfl, ?_⟩; have n0_ := Aside0.mk (below_step (by repeat (first | (with_reducible first | exact HB.out | apply below_alloc | apply pw_below_drewN | apply below_drew1) | exact HB.out)) hb); clear HB; have HB := n0_; clear n0_; (try clear hb); (try clear hb2); (try clear hk); (try clear hi)) | ((with_reducible refine gate_callee (f := 23) rfl ?_); refine goesL_ (some 30) rfl rfl Try.func23 (by kernel_rfl) rfl #[.string a2] rfl (by (try simp only [List.map_toArray, List.map_cons, List.map_nil]); first | done | rfl | (simp only [List.length_drop, List.length_take]; rfl)) ?_; (with_reducible refine (crc_Number.calls a2 t180 t181 _ A11.out).mono ?_); rintro e w15 ⟨rfl, hb⟩; refine ⟨_, rfl, ?_⟩; have n0_ := Aside0.mk (below_step (by repeat (first | (with_reducible first | exact HB.out | apply below_alloc | apply pw_below_drewN | apply below_drew1) | exact HB.out)) hb); clear HB; have HB := n0_; clear n0_; (try clear hb); (try clear hb2); (try clear hk); (try clear hi)) | ((with_reducible refine gate_callee (f := 24) rfl ?_); refine goesL_ (some 35) rfl rfl Try.func24 (by kernel_rfl) rfl #[.string a2] rfl (by (try simp only [List.map_toArray, List.map_cons, List.map_nil]); first | done | rfl | (simp only [List.length_drop, List.length_take]; rfl)) ?_; (with_reducible refine (signalboxref07_Number.calls kj4 a2 t182 t183 _ A12.out).mono ?_); rintro e w' ⟨rfl, ⟨nd, rfl⟩⟩; refine ⟨_, rfl, ?_⟩))
        (try simp only [Act.put, List.setIfInBounds_toArray, List.set_cons_zero, List.set_cons_succ])
        go_cut [61] (fun v61 wc => ∃ (kq : Nat) (x61_12 : Bool), v61 = .bool x61_12 ∧ Aside0 (signalboxlaw07_CrcBits.j1 kq a0 a1 a2 t179 t180 t181 x61_12 = some r) ∧ Aside0 (kq ≤ kj4) ∧ Aside0 (Below w.heap.size w wc))
        case first =>
          have H := HC13.out
          clear HC13
          replace H := Option.bind_eq_some_iff.mp H
          obtain ⟨t184, A160, H⟩ := H
          replace H : (if t179.toList = t184.toList then (if t180 = t182 then (if (t181 != t183) = true then (signalboxlaw07_CrcBits.j1 kj4 a0 a1 a2 t179 t180 t181 true) else ((crc_Add.f a2 a3).bind fun t185 => ((signalboxref07_Add.f kj4 a2 a3).bind fun t186 => (signalboxlaw07_CrcBits.j1 kj4 a0 a1 a2 t179 t180 t181 (t185.toList != t186.toList))))) else (signalboxlaw07_CrcBits.j1 kj4 a0 a1 a2 t179 t180 t181 true)) else (signalboxlaw07_CrcBits.j1 kj4 a0 a1 a2 t179 t180 t181 true)) = some r := H
          have A16 := Aside0.mk A160
          clear A160
          by_cases c17 : t179.toList = t184.toList
          · rw [if_pos c17] at H
            have c17b0 : (t179.toList == t184.toList) = true := beq_iff_eq.mpr c17
            have c17b1 : (t179.toList != t184.toList) = false := bne_eq_false_iff_eq.mpr c17
            clear c17
            (first | rw [c17b0] | (simp only [i64_w, i32_w]; rw [c17b0]) | skip)
            by_cases c18 : t180 = t182
            · rw [if_pos c18] at H
              have c18b0 : (t180 == t182) = true := beq_iff_eq.mpr c18
              have c18b1 : (t180 != t182) = false := bne_eq_false_iff_eq.mpr c18
              clear c18
              by_cases c19 : (t181 != t183) = true
              · rw [if_pos c19] at H
                have c19b0 : (t181 != t183) = true := c19
                (try (have c19b1 : decide (t181 = t183) = false := by simpa using c19))
                (try (have c19b2 : (t181 == t183) = false := by simpa using c19))
                (try (have c19b3 : ¬ (t181 = t183) := by simpa using c19))
                clear c19
                have H' := Aside0.mk H
                clear H
                go_wp2_with (first | ((with_reducible refine gate_callee (f := 25) rfl ?_); refine goesL_ (some 41) rfl rfl Try.func25 (by kernel_rfl) rfl #[.int .i64 a0, .int .i64 a1] rfl (by (try simp only [List.map_toArray, List.map_cons, List.map_nil]); first | done | rfl | (simp only [List.length_drop, List.length_take]; rfl)) ?_; (with_reducible refine (signalboxref07_Bits.calls kj4 a0 a1 t184 _ A16.out).mono ?_); rintro e w20 ⟨rfl, hb⟩; refine ⟨_, rfl, ?_⟩; have n0_ := Aside0.mk (below_step (by repeat (first | (with_reducible first | exact HB.out | apply below_alloc | apply pw_below_drewN | apply below_drew1) | exact HB.out)) hb); clear HB; have HB := n0_; clear n0_; (try clear hb); (try clear hb2); (try clear hk); (try clear hi)))
                go_meet
                case rel => exact ⟨_, (true), (by first | rfl | (simp; done) | (simp [*]; done)), H', ⟨by have := HJ4.out; first | omega | exact Nat.le_refl _⟩, ⟨by repeat (first | (with_reducible first | exact HB.out | apply below_alloc | apply pw_below_drewN | apply below_drew1) | exact HB.out)⟩⟩
              · rw [if_neg c19] at H
                have c19b0 : (t181 != t183) = false := by simpa using c19
                (try (have c19b1 : decide (t181 = t183) = true := by simpa using c19))
                (try (have c19b2 : (t181 == t183) = true := by simpa using c19))
                clear c19
                replace H := Option.bind_eq_some_iff.mp H
                obtain ⟨t185, A210, H⟩ := H
                replace H : ((signalboxref07_Add.f kj4 a2 a3).bind fun t186 => (signalboxlaw07_CrcBits.j1 kj4 a0 a1 a2 t179 t180 t181 (t185.toList != t186.toList))) = some r := H
                have A21 := Aside0.mk A210
                clear A210
                replace H := Option.bind_eq_some_iff.mp H
                obtain ⟨t186, A220, H⟩ := H
                replace H : (signalboxlaw07_CrcBits.j1 kj4 a0 a1 a2 t179 t180 t181 (t185.toList != t186.toList)) = some r := H
                have A22 := Aside0.mk A220
                clear A220
                have H' := Aside0.mk H
                clear H
                go_wp2_with (first | ((with_reducible refine gate_callee (f := 25) rfl ?_); refine goesL_ (some 41) rfl rfl Try.func25 (by kernel_rfl) rfl #[.int .i64 a0, .int .i64 a1] rfl (by (try simp only [List.map_toArray, List.map_cons, List.map_nil]); first | done | rfl | (simp only [List.length_drop, List.length_take]; rfl)) ?_; (with_reducible refine (signalboxref07_Bits.calls kj4 a0 a1 t184 _ A16.out).mono ?_); rintro e w23 ⟨rfl, hb⟩; refine ⟨_, rfl, ?_⟩; have n0_ := Aside0.mk (below_step (by repeat (first | (with_reducible first | exact HB.out | apply below_alloc | apply pw_below_drewN | apply below_drew1) | exact HB.out)) hb); clear HB; have HB := n0_; clear n0_; (try clear hb); (try clear hb2); (try clear hk); (try clear hi)) | (go_at_call 26; (with_reducible refine (crc_Add.calls a2 a3 t185 _ A21.out).mono ?_); rintro e w24 ⟨rfl, hb⟩; have n0_ := Aside0.mk (below_step (by repeat (first | (with_reducible first | exact HB.out | apply below_alloc | apply pw_below_drewN | apply below_drew1) | exact HB.out)) hb); clear HB; have HB := n0_; clear n0_; (try clear hb); (try clear hb2); (try clear hk); (try clear hi)) | (go_at_call 27; (with_reducible refine (signalboxref07_Add.calls kj4 a2 a3 t186 _ A22.out).mono ?_); rintro e w' ⟨rfl, ⟨nd, rfl⟩⟩))
                go_meet
                case rel => exact ⟨_, ((t185.toList != t186.toList)), (by first | rfl | (simp; done) | (simp [*]; done)), H', ⟨by have := HJ4.out; first | omega | exact Nat.le_refl _⟩, ⟨by repeat (first | (with_reducible first | exact HB.out | apply below_alloc | apply pw_below_drewN | apply below_drew1) | exact HB.out)⟩⟩
            · rw [if_neg c18] at H
              have c18b0 : (t180 == t182) = false := beq_eq_false_iff_ne.mpr c18
              have c18b1 : (t180 != t182) = true := bne_iff_ne.mpr c18
              have H' := Aside0.mk H
              clear H
              go_wp2_with (first | ((with_reducible refine gate_callee (f := 25) rfl ?_); refine goesL_ (some 41) rfl rfl Try.func25 (by kernel_rfl) rfl #[.int .i64 a0, .int .i64 a1] rfl (by (try simp only [List.map_toArray, List.map_cons, List.map_nil]); first | done | rfl | (simp only [List.length_drop, List.length_take]; rfl)) ?_; (with_reducible refine (signalboxref07_Bits.calls kj4 a0 a1 t184 _ A16.out).mono ?_); rintro e w25 ⟨rfl, hb⟩; refine ⟨_, rfl, ?_⟩; have n0_ := Aside0.mk (below_step (by repeat (first | (with_reducible first | exact HB.out | apply below_alloc | apply pw_below_drewN | apply below_drew1) | exact HB.out)) hb); clear HB; have HB := n0_; clear n0_; (try clear hb); (try clear hb2); (try clear hk); (try clear hi)))
              go_meet
              case rel => exact ⟨_, (true), (by first | rfl | (simp; done) | (simp [*]; done)), H', ⟨by have := HJ4.out; first | omega | exact Nat.le_refl _⟩, ⟨by repeat (first | (with_reducible first | exact HB.out | apply below_alloc | apply pw_below_drewN | apply below_drew1) | exact HB.out)⟩⟩
          · rw [if_neg c17] at H
            have c17b0 : (t179.toList == t184.toList) = false := beq_eq_false_iff_ne.mpr c17
            have c17b1 : (t179.toList != t184.toList) = true := bne_iff_ne.mpr c17
            (first | rw [c17b0] | (simp only [i64_w, i32_w]; rw [c17b0]) | skip)
            have H' := Aside0.mk H
            clear H
            go_wp2_with (first | ((with_reducible refine gate_callee (f := 25) rfl ?_); refine goesL_ (some 41) rfl rfl Try.func25 (by kernel_rfl) rfl #[.int .i64 a0, .int .i64 a1] rfl (by (try simp only [List.map_toArray, List.map_cons, List.map_nil]); first | done | rfl | (simp only [List.length_drop, List.length_take]; rfl)) ?_; (with_reducible refine (signalboxref07_Bits.calls kj4 a0 a1 t184 _ A16.out).mono ?_); rintro e w26 ⟨rfl, hb⟩; refine ⟨_, rfl, ?_⟩; have n0_ := Aside0.mk (below_step (by repeat (first | (with_reducible first | exact HB.out | apply below_alloc | apply pw_below_drewN | apply below_drew1) | exact HB.out)) hb); clear HB; have HB := n0_; clear n0_; (try clear hb); (try clear hb2); (try clear hk); (try clear hi)))
            go_meet
            case rel => exact ⟨_, (true), (by first | rfl | (simp; done) | (simp [*]; done)), H', ⟨by have := HJ4.out; first | omega | exact Nat.le_refl _⟩, ⟨by repeat (first | (with_reducible first | exact HB.out | apply below_alloc | apply pw_below_drewN | apply below_drew1) | exact HB.out)⟩⟩
        case rest =>
          clear HC13
          try clear c1
          try clear c2
          try clear p2
          try clear c6
          try clear c6b0
          try clear c6b1
          try clear c7
          try clear c8
          try clear c15
          try clear c17
          try clear c17b0
          try clear c17b1
          try clear c18
          try clear c18b0
          try clear c18b1
          try clear c19
          try clear c19b0
          try clear c19b1
          try clear c19b2
          try clear c23
          try clear c24
          try clear c25
          try clear p2
          obtain ⟨kq, x61_12, rfl, HA, HJ12, HB⟩ := hcut
          cases kq with
          | zero => exact absurd HA.out (by simp [signalboxlaw07_CrcBits.j1])
          | succ kj12 =>
            have H := HA.out
            clear HA
            simp only [signalboxlaw07_CrcBits.j1] at H
            by_cases c27 : x61_12 = true
            · subst c27
              have H1 : (some false) = some r := by rw [if_pos rfl] at H; exact H
              clear H
              have H := H1
              clear H1
              obtain rfl := Option.some.inj H
              go_wp2
              go_ret
              exact ⟨by first | rfl | (simp [errW_none, errW_some] <;> rfl) | (simp [*, errW_none, errW_some] <;> rfl), by repeat (first | (with_reducible first | exact HB.out | apply below_alloc | apply pw_below_drewN | apply below_drew1) | exact HB.out)⟩
            · replace c27 := Bool.eq_false_iff.mpr c27
              subst c27
              have H1 : (if a0 ≥ 0 then (if a1 ≥ 0 then (if a1 ≤ 60 then (if 0 ≤ a1 then (signalboxlaw07_CrcBits.j2 kj12 a0 a2 t179 t180 t181 (decide (a0 < (shl .i64 1 a1)))) else (none)) else (signalboxlaw07_CrcBits.j2 kj12 a0 a2 t179 t180 t181 false)) else (signalboxlaw07_CrcBits.j2 kj12 a0 a2 t179 t180 t181 false)) else (signalboxlaw07_CrcBits.j2 kj12 a0 a2 t179 t180 t181 false)) = some r := by rw [if_neg (show ¬ (false = true) by decide)] at H; exact H
              clear H
              have H := H1
              clear H1
              have HC28 := Aside0.mk H
              clear H
              go_upto_region 8 with (fail)
              go_cut [77] (fun v77 wc => ∃ (kq : Nat) (x77_27 : Bool), v77 = .bool x77_27 ∧ Aside0 (signalboxlaw07_CrcBits.j2 kq a0 a2 t179 t180 t181 x77_27 = some r) ∧ Aside0 (kq ≤ kj12) ∧ Aside0 (Below w.heap.size w wc))
              case first =>
                have H := HC28.out
                clear HC28
                by_cases c29 : a0 ≥ 0
                · rw [if_pos c29] at H
                  have c29b0 : decide (0 ≤ a0) = true := decide_eq_true c29
                  clear c29
                  (first | rw [c29b0] | (simp only [i64_w, i32_w]; rw [c29b0]) | skip)
                  by_cases c30 : a1 ≥ 0
                  · rw [if_pos c30] at H
                    have c30b0 : decide (0 ≤ a1) = true := decide_eq_true c30
                    clear c30
                    by_cases c31 : a1 ≤ 60
                    · rw [if_pos c31] at H
                      have c31b0 : decide (a1 ≤ 60) = true := decide_eq_true c31
                      clear c31
                      by_cases c32 : 0 ≤ a1
                      · rw [if_pos c32] at H
                        have c32b0 := eq_true c32
                        have c32b1 : decide (0 ≤ a1) = true := decide_eq_true c32
                        clear c32
                        obtain ⟨ji33, hji33⟩ : ∃ j_ : Int, (shl .i64 1 a1) = j_ := ⟨_, rfl⟩
                        replace H : (signalboxlaw07_CrcBits.j2 kj12 a0 a2 t179 t180 t181 (decide (a0 < (ji33)))) = some r := by first | (rw [hji33] at H; exact H) | (simp only [hji33] at H ⊢; exact H)
                        have hji33_ : (IntKind.i64.wrap (1 * 2 ^ min a1.toNat 64)) = ji33 := hji33
                        have hji33z : a1 ≤ 64 → (IntKind.i64.wrap (1 * 2 ^ a1.toNat)) = ji33 := shl_small hji33
                        have hji33u : (IntKind.i64.wrap (2 ^ min a1.toNat 64)) = ji33 := by have h_ := hji33_; rw [Int.one_mul] at h_; exact h_
                        have hji33v : a1 ≤ 64 → (IntKind.i64.wrap (2 ^ a1.toNat)) = ji33 := fun hle_ => by have h_ := hji33z hle_; rw [Int.one_mul] at h_; exact h_
                        have hji33y : (wrap64 (1 * 2 ^ min a1.toNat 64)) = ji33 := (i64_w _).symm.trans hji33_
                        have hji33x : a1 ≤ 64 → (wrap64 (1 * 2 ^ a1.toNat)) = ji33 := fun h_ => (i64_w _).symm.trans (hji33z h_)
                        have H' := Aside0.mk H
                        clear H
                        go_wp2
                        go_meet
                        case rel => exact ⟨_, (decide (a0 < (ji33))), (by first | rfl | (simp; done) | (simp only [← hji33] <;> (first | rfl | simp)) | (simp [*]; done)), H', ⟨by have := HJ4.out; have := HJ12.out; first | omega | exact Nat.le_refl _⟩, ⟨by repeat (first | (with_reducible first | exact HB.out | apply below_alloc | apply pw_below_drewN | apply below_drew1) | exact HB.out)⟩⟩
                      · rw [if_neg c32] at H
                        exact absurd H (by simp)
                    · rw [if_neg c31] at H
                      have c31b0 : decide (a1 ≤ 60) = false := decide_eq_false c31
                      clear c31
                      have H' := Aside0.mk H
                      clear H
                      go_wp2
                      go_meet
                      case rel => exact ⟨_, (false), (by first | rfl | (simp; done) | (simp [*]; done)), H', ⟨by have := HJ4.out; have := HJ12.out; first | omega | exact Nat.le_refl _⟩, ⟨by repeat (first | (with_reducible first | exact HB.out | apply below_alloc | apply pw_below_drewN | apply below_drew1) | exact HB.out)⟩⟩
                  · rw [if_neg c30] at H
                    have c30b0 : decide (0 ≤ a1) = false := decide_eq_false c30
                    clear c30
                    have H' := Aside0.mk H
                    clear H
                    go_wp2
                    go_meet
                    case rel => exact ⟨_, (false), (by first | rfl | (simp; done) | (simp [*]; done)), H', ⟨by have := HJ4.out; have := HJ12.out; first | omega | exact Nat.le_refl _⟩, ⟨by repeat (first | (with_reducible first | exact HB.out | apply below_alloc | apply pw_below_drewN | apply below_drew1) | exact HB.out)⟩⟩
                · rw [if_neg c29] at H
                  have c29b0 : decide (0 ≤ a0) = false := decide_eq_false c29
                  clear c29
                  (first | rw [c29b0] | (simp only [i64_w, i32_w]; rw [c29b0]) | skip)
                  have H' := Aside0.mk H
                  clear H
                  go_wp2
                  go_meet
                  case rel => exact ⟨_, (false), (by first | rfl | (simp; done) | (simp [*]; done)), H', ⟨by have := HJ4.out; have := HJ12.out; first | omega | exact Nat.le_refl _⟩, ⟨by repeat (first | (with_reducible first | exact HB.out | apply below_alloc | apply pw_below_drewN | apply below_drew1) | exact HB.out)⟩⟩
              case rest =>
                clear HC28
                try clear c1
                try clear c2
                try clear p2
                try clear c3
                try clear c6
                try clear c6b0
                try clear c6b1
                try clear p6
                try clear c7
                try clear c8
                try clear c15
                try clear c17
                try clear c17b0
                try clear c17b1
                try clear c18
                try clear c18b0
                try clear c18b1
                try clear c19
                try clear c19b0
                try clear c19b1
                try clear c19b2
                try clear c23
                try clear c24
                try clear c25
                try clear c27
                try clear c29
                try clear c29b0
                try clear c30
                try clear c30b0
                try clear c31
                try clear c31b0
                try clear c32
                try clear c32b0
                try clear c32b1
                try clear p2
                obtain ⟨kq, x77_27, rfl, HA, HJ27, HB⟩ := hcut
                cases kq with
                | zero => exact absurd HA.out (by simp [signalboxlaw07_CrcBits.j2])
                | succ kj27 =>
                  have H := HA.out
                  clear HA
                  simp only [signalboxlaw07_CrcBits.j2] at H
                  by_cases c34 : x77_27 = true
                  · subst c34
                    have H1 : ((crc_Number.f t179).bind fun bt187 => (if bt187.1 = a0 then (if bt187.2 = true then ((signalboxlaw07_alive.f).bind fun t189 => (some t189)) else (some false)) else (some false))) = some r := by rw [if_pos rfl] at H; exact H
                    clear H
                    have H := H1
                    clear H1
                    replace H := Option.bind_eq_some_iff.mp H
                    obtain ⟨⟨t187, t188⟩, A350, H⟩ := H
                    replace H : (if t187 = a0 then (if t188 = true then ((signalboxlaw07_alive.f).bind fun t189 => (some t189)) else (some false)) else (some false)) = some r := H
                    have A35 := Aside0.mk A350
                    clear A350
                    by_cases c36 : t187 = a0
                    · rw [if_pos c36] at H
                      have c36b0 : (t187 == a0) = true := beq_iff_eq.mpr c36
                      have c36b1 : (t187 != a0) = false := bne_eq_false_iff_eq.mpr c36
                      clear c36
                      by_cases c37 : t188 = true
                      · subst c37
                        have H1 : ((signalboxlaw07_alive.f).bind fun t189 => (some t189)) = some r := by rw [if_pos rfl] at H; exact H
                        clear H
                        have H := H1
                        clear H1
                        replace H := Option.bind_eq_some_iff.mp H
                        obtain ⟨t189, A380, H⟩ := H
                        replace H : (some t189) = some r := H
                        have A38 := Aside0.mk A380
                        clear A380
                        obtain rfl := Option.some.inj H
                        go_wp2_with (first | ((with_reducible refine gate_callee (f := 23) rfl ?_); refine goesL_ (some 80) rfl rfl Try.func23 (by kernel_rfl) rfl #[.string t179] rfl (by (try simp only [List.map_toArray, List.map_cons, List.map_nil]); first | done | rfl | (simp only [List.length_drop, List.length_take]; rfl)) ?_; (with_reducible refine (crc_Number.calls t179 t187 true _ A35.out).mono ?_); rintro e w39 ⟨rfl, hb⟩; refine ⟨_, rfl, ?_⟩; have n0_ := Aside0.mk (below_step (by repeat (first | (with_reducible first | exact HB.out | apply below_alloc | apply pw_below_drewN | apply below_drew1) | exact HB.out)) hb); clear HB; have HB := n0_; clear n0_; (try clear hb); (try clear hb2); (try clear hk); (try clear hi)) | (go_at_call 15; (with_reducible refine (signalboxlaw07_alive.calls  t189 _ A38.out).mono ?_); rintro e w40 ⟨rfl, hb⟩; have n0_ := Aside0.mk (below_step (by repeat (first | (with_reducible first | exact HB.out | apply below_alloc | apply pw_below_drewN | apply below_drew1) | exact HB.out)) hb); clear HB; have HB := n0_; clear n0_; (try clear hb); (try clear hb2); (try clear hk); (try clear hi)))
                        go_ret
                        exact ⟨by first | rfl | (simp [errW_none, errW_some] <;> rfl) | (simp [*, errW_none, errW_some] <;> rfl), by repeat (first | (with_reducible first | exact HB.out | apply below_alloc | apply pw_below_drewN | apply below_drew1) | exact HB.out)⟩
                      · replace c37 := Bool.eq_false_iff.mpr c37
                        subst c37
                        have H1 : (some false) = some r := by rw [if_neg (show ¬ (false = true) by decide)] at H; exact H
                        clear H
                        have H := H1
                        clear H1
                        obtain rfl := Option.some.inj H
                        go_wp2_with (first | ((with_reducible refine gate_callee (f := 23) rfl ?_); refine goesL_ (some 80) rfl rfl Try.func23 (by kernel_rfl) rfl #[.string t179] rfl (by (try simp only [List.map_toArray, List.map_cons, List.map_nil]); first | done | rfl | (simp only [List.length_drop, List.length_take]; rfl)) ?_; (with_reducible refine (crc_Number.calls t179 t187 false _ A35.out).mono ?_); rintro e w41 ⟨rfl, hb⟩; refine ⟨_, rfl, ?_⟩; have n0_ := Aside0.mk (below_step (by repeat (first | (with_reducible first | exact HB.out | apply below_alloc | apply pw_below_drewN | apply below_drew1) | exact HB.out)) hb); clear HB; have HB := n0_; clear n0_; (try clear hb); (try clear hb2); (try clear hk); (try clear hi)))
                        go_ret
                        exact ⟨by first | rfl | (simp [errW_none, errW_some] <;> rfl) | (simp [*, errW_none, errW_some] <;> rfl), by repeat (first | (with_reducible first | exact HB.out | apply below_alloc | apply pw_below_drewN | apply below_drew1) | exact HB.out)⟩
                    · rw [if_neg c36] at H
                      have c36b0 : (t187 == a0) = false := beq_eq_false_iff_ne.mpr c36
                      have c36b1 : (t187 != a0) = true := bne_iff_ne.mpr c36
                      obtain rfl := Option.some.inj H
                      go_wp2_with (first | ((with_reducible refine gate_callee (f := 23) rfl ?_); refine goesL_ (some 80) rfl rfl Try.func23 (by kernel_rfl) rfl #[.string t179] rfl (by (try simp only [List.map_toArray, List.map_cons, List.map_nil]); first | done | rfl | (simp only [List.length_drop, List.length_take]; rfl)) ?_; (with_reducible refine (crc_Number.calls t179 t187 t188 _ A35.out).mono ?_); rintro e w42 ⟨rfl, hb⟩; refine ⟨_, rfl, ?_⟩; have n0_ := Aside0.mk (below_step (by repeat (first | (with_reducible first | exact HB.out | apply below_alloc | apply pw_below_drewN | apply below_drew1) | exact HB.out)) hb); clear HB; have HB := n0_; clear n0_; (try clear hb); (try clear hb2); (try clear hk); (try clear hi)))
                      go_ret
                      exact ⟨by first | rfl | (simp [errW_none, errW_some] <;> rfl) | (simp [*, errW_none, errW_some] <;> rfl), by repeat (first | (with_reducible first | exact HB.out | apply below_alloc | apply pw_below_drewN | apply below_drew1) | exact HB.out)⟩
                  · replace c34 := Bool.eq_false_iff.mpr c34
                    subst c34
                    have H1 : (if t181 = true then ((crc_Bits.f t180 (a2.size : Int)).bind fun t190 => (if t190.toList = a2.toList then ((signalboxlaw07_alive.f).bind fun t191 => (some t191)) else (some false))) else ((signalboxlaw07_alive.f).bind fun t192 => (some t192))) = some r := by rw [if_neg (show ¬ (false = true) by decide)] at H; exact H
                    clear H
                    have H := H1
                    clear H1
                    by_cases c43 : t181 = true
                    · subst c43
                      have H1 : ((crc_Bits.f t180 (a2.size : Int)).bind fun t190 => (if t190.toList = a2.toList then ((signalboxlaw07_alive.f).bind fun t191 => (some t191)) else (some false))) = some r := by rw [if_pos rfl] at H; exact H
                      clear H
                      have H := H1
                      clear H1
                      replace H := Option.bind_eq_some_iff.mp H
                      obtain ⟨t190, A440, H⟩ := H
                      replace H : (if t190.toList = a2.toList then ((signalboxlaw07_alive.f).bind fun t191 => (some t191)) else (some false)) = some r := H
                      have A44 := Aside0.mk A440
                      clear A440
                      by_cases c45 : t190.toList = a2.toList
                      · rw [if_pos c45] at H
                        have c45b0 : (t190.toList == a2.toList) = true := beq_iff_eq.mpr c45
                        have c45b1 : (t190.toList != a2.toList) = false := bne_eq_false_iff_eq.mpr c45
                        clear c45
                        replace H := Option.bind_eq_some_iff.mp H
                        obtain ⟨t191, A460, H⟩ := H
                        replace H : (some t191) = some r := H
                        have A46 := Aside0.mk A460
                        clear A460
                        obtain rfl := Option.some.inj H
                        go_wp2_with (first | (go_at_call 19; (with_reducible refine (crc_Bits.calls t180 (a2.size : Int) t190 _ A44.out).mono ?_); rintro e w47 ⟨rfl, hb⟩; have n0_ := Aside0.mk (below_step (by repeat (first | (with_reducible first | exact HB.out | apply below_alloc | apply pw_below_drewN | apply below_drew1) | exact HB.out)) hb); clear HB; have HB := n0_; clear n0_; (try clear hb); (try clear hb2); (try clear hk); (try clear hi)) | (go_at_call 15; (with_reducible refine (signalboxlaw07_alive.calls  t191 _ A46.out).mono ?_); rintro e w48 ⟨rfl, hb⟩; have n0_ := Aside0.mk (below_step (by repeat (first | (with_reducible first | exact HB.out | apply below_alloc | apply pw_below_drewN | apply below_drew1) | exact HB.out)) hb); clear HB; have HB := n0_; clear n0_; (try clear hb); (try clear hb2); (try clear hk); (try clear hi)))
                        go_ret
                        exact ⟨by first | rfl | (simp [errW_none, errW_some] <;> rfl) | (simp [*, errW_none, errW_some] <;> rfl), by repeat (first | (with_reducible first | exact HB.out | apply below_alloc | apply pw_below_drewN | apply below_drew1) | exact HB.out)⟩
                      · rw [if_neg c45] at H
                        have c45b0 : (t190.toList == a2.toList) = false := beq_eq_false_iff_ne.mpr c45
                        have c45b1 : (t190.toList != a2.toList) = true := bne_iff_ne.mpr c45
                        obtain rfl := Option.some.inj H
                        go_wp2_with (first | (go_at_call 19; (with_reducible refine (crc_Bits.calls t180 (a2.size : Int) t190 _ A44.out).mono ?_); rintro e w49 ⟨rfl, hb⟩; have n0_ := Aside0.mk (below_step (by repeat (first | (with_reducible first | exact HB.out | apply below_alloc | apply pw_below_drewN | apply below_drew1) | exact HB.out)) hb); clear HB; have HB := n0_; clear n0_; (try clear hb); (try clear hb2); (try clear hk); (try clear hi)))
                        go_ret
                        exact ⟨by first | rfl | (simp [errW_none, errW_some] <;> rfl) | (simp [*, errW_none, errW_some] <;> rfl), by repeat (first | (with_reducible first | exact HB.out | apply below_alloc | apply pw_below_drewN | apply below_drew1) | exact HB.out)⟩
                    · replace c43 := Bool.eq_false_iff.mpr c43
                      subst c43
                      have H1 : ((signalboxlaw07_alive.f).bind fun t192 => (some t192)) = some r := by rw [if_neg (show ¬ (false = true) by decide)] at H; exact H
                      clear H
                      have H := H1
                      clear H1
                      replace H := Option.bind_eq_some_iff.mp H
                      obtain ⟨t192, A500, H⟩ := H
                      replace H : (some t192) = some r := H
                      have A50 := Aside0.mk A500
                      clear A500
                      obtain rfl := Option.some.inj H
                      go_wp2_with (first | (go_at_call 15; (with_reducible refine (signalboxlaw07_alive.calls  t192 _ A50.out).mono ?_); rintro e w51 ⟨rfl, hb⟩; have n0_ := Aside0.mk (below_step (by repeat (first | (with_reducible first | exact HB.out | apply below_alloc | apply pw_below_drewN | apply below_drew1) | exact HB.out)) hb); clear HB; have HB := n0_; clear n0_; (try clear hb); (try clear hb2); (try clear hk); (try clear hi)))
                      go_ret
                      exact ⟨by first | rfl | (simp [errW_none, errW_some] <;> rfl) | (simp [*, errW_none, errW_some] <;> rfl), by repeat (first | (with_reducible first | exact HB.out | apply below_alloc | apply pw_below_drewN | apply below_drew1) | exact HB.out)⟩

/-- THE ONE PURE STATEMENT of signalboxlaw07_CrcBits: yours. -/
def signalboxlaw07_CrcBits.Pure : Prop := ∀ (a0 : Int) (a1 : Int) (a2 : ByteArray) (a3 : ByteArray), (Lit.int .i64 a0).wf = true → (Lit.int .i64 a1).wf = true → a2.size ≤ 140737488351232 → a3.size ≤ 140737488351232 → ∃ k, signalboxlaw07_CrcBits.f k a0 a1 a2 a3 = some true
theorem signalboxlaw07_CrcBits.walk (P : signalboxlaw07_CrcBits.Pure) (a0 : Int) (a1 : Int) (a2 : ByteArray) (a3 : ByteArray) (w : World) (w0 : (Lit.int .i64 a0).wf = true) (w1 : (Lit.int .i64 a1).wf = true) (w2 : a2.size ≤ 140737488351232) (w3 : a3.size ≤ 140737488351232) :
    Calls Try.prog 8 #[.int .i64 a0, .int .i64 a1, .string a2, .string a3] w fun e w' => e = .returned (.bool true) ∧ Below w.heap.size w w' := by
  obtain ⟨k, h⟩ := P a0 a1 a2 a3 w0 w1 w2 w3
  refine (signalboxlaw07_CrcBits.calls k a0 a1 a2 a3 true w h).mono ?_
  rintro e w' ⟨rfl, hd⟩
  exact ⟨rfl, hd⟩

end Go.Proofs.Ytbpjbnhhopohgaa.P
