/- Printed for this claim by a program of the session (wip/gp.py, which drives the kit's printer): a Go function as a plain Lean function, and that its call answers it, wherever that function answers; no other conditions. -/
import Derived.Test.YtbpjbnhhopohgaaP0
import Derived.Test.YtbpjbnhhopohgaaPcrcCrc
import Derived.Test.YtbpjbnhhopohgaaPsignalboxlaw07alive
import Derived.Test.YtbpjbnhhopohgaaPsignalboxref06Right
import Derived.Test.YtbpjbnhhopohgaaPsignalboxref07Right
import Derived.Test.YtbpjbnhhopohgaaGAdd
import Derived.Test.YtbpjbnhhopohgaaGSum
namespace Go.Proofs.Ytbpjbnhhopohgaa.P
open Go.RowKit Go.Proofs.YtbpjbnhhopohgaaW.PrintWords Go.Proofs.YtbpjbnhhopohgaaW.PrintLast Go.Proofs.YtbpjbnhhopohgaaW.PrintMore
attribute [local go_sem] max2_int min2_int max_two min_two max_three min_three max_four min_four   -- for this text's walks alone
set_option linter.unusedVariables false
set_option linter.unusedSimpArgs false

/-! ### signalboxlaw07_CrcFinds: function 10 -/
mutual
def signalboxlaw07_CrcFinds.j0 : Nat → ByteArray → ByteArray → Int → Int → Int → Bool → Option (Bool)
  | 0, _, _, _, _, _, _ => none
  | k + 1, x0, x1, x2, x3, x4, x65 => if x65 = true then ((signalboxlaw07_alive.f).bind fun t206 => (some t206)) else (if 0 ≤ x2 then (if x2 ≤ (x0.size : Int) then (if x2 ≤ (wrap64 (x2 + (x1.size : Int))) then (if (wrap64 (x2 + (x1.size : Int))) ≤ (x0.size : Int) then ((crc_Add.f (x0.extract (x2 : Int).toNat ((wrap64 (x2 + (x1.size : Int))) : Int).toNat) x1).bind fun t207 => (if (x0.extract 0 (x2 : Int).toNat).size + t207.size ≤ 9223372036854775807 then (if 0 ≤ (wrap64 (x2 + (x1.size : Int))) then (if ((x0.extract 0 (x2 : Int).toNat) ++ t207).size + (x0.extract ((wrap64 (x2 + (x1.size : Int))) : Int).toNat x0.size).size ≤ 9223372036854775807 then ((crc_Sum.f x0 x3 x4).bind fun bt208 => ((crc_Sum.f (((x0.extract 0 (x2 : Int).toNat) ++ t207) ++ (x0.extract ((wrap64 (x2 + (x1.size : Int))) : Int).toNat x0.size)) x3 x4).bind fun bt210 => (if bt208.2 = true then (if bt210.2 = true then (signalboxlaw07_CrcFinds.j1 k x0 x1 (((x0.extract 0 (x2 : Int).toNat) ++ t207) ++ (x0.extract ((wrap64 (x2 + (x1.size : Int))) : Int).toNat x0.size)) ((bt208.1 == bt210.1) != (x0.toList == (((x0.extract 0 (x2 : Int).toNat) ++ t207) ++ (x0.extract ((wrap64 (x2 + (x1.size : Int))) : Int).toNat x0.size)).toList))) else (signalboxlaw07_CrcFinds.j1 k x0 x1 (((x0.extract 0 (x2 : Int).toNat) ++ t207) ++ (x0.extract ((wrap64 (x2 + (x1.size : Int))) : Int).toNat x0.size)) true)) else (signalboxlaw07_CrcFinds.j1 k x0 x1 (((x0.extract 0 (x2 : Int).toNat) ++ t207) ++ (x0.extract ((wrap64 (x2 + (x1.size : Int))) : Int).toNat x0.size)) true)))) else (none)) else (none)) else (none))) else (none)) else (none)) else (none)) else (none))
def signalboxlaw07_CrcFinds.j1 : Nat → ByteArray → ByteArray → ByteArray → Bool → Option (Bool)
  | 0, _, _, _, _ => none
  | k + 1, x0, x1, x11, x115 => if x115 = true then (some false) else (if (x1.size : Int) > 15 then ((signalboxlaw07_alive.f).bind fun t212 => (some t212)) else ((crc_Crc.f x0).bind fun t213 => ((crc_Crc.f x11).bind fun t214 => (if ((t213 == t214) == (x0.toList == x11.toList)) = true then ((signalboxlaw07_alive.f).bind fun t215 => (some t215)) else (some false)))))
end
def signalboxlaw07_CrcFinds.f (k : Nat) (a0 : ByteArray) (a1 : ByteArray) (a2 : Int) (a3 : Int) (a4 : Int) : Option (Bool) := if (a0.size : Int) > 600 then (signalboxlaw07_CrcFinds.j0 k a0 a1 a2 a3 a4 true) else ((signalboxref06_Right.f k a0).bind fun t203 => (if t203 = true then ((signalboxref06_Right.f k a1).bind fun t204 => (if t204 = true then (if a2 < 0 then (signalboxlaw07_CrcFinds.j0 k a0 a1 a2 a3 a4 true) else (if (a1.size : Int) > (a0.size : Int) then (signalboxlaw07_CrcFinds.j0 k a0 a1 a2 a3 a4 true) else (if a2 > (wrap64 ((a0.size : Int) - (a1.size : Int))) then (signalboxlaw07_CrcFinds.j0 k a0 a1 a2 a3 a4 true) else ((signalboxref07_Right.f k a3 a4).bind fun t205 => (if t205 = true then (if (Int.tmod a4 2) = 0 then (signalboxlaw07_CrcFinds.j0 k a0 a1 a2 a3 a4 true) else (signalboxlaw07_CrcFinds.j0 k a0 a1 a2 a3 a4 (decide ((a1.size : Int) > a3)))) else (signalboxlaw07_CrcFinds.j0 k a0 a1 a2 a3 a4 true)))))) else (signalboxlaw07_CrcFinds.j0 k a0 a1 a2 a3 a4 true))) else (signalboxlaw07_CrcFinds.j0 k a0 a1 a2 a3 a4 true)))
theorem signalboxlaw07_CrcFinds.mono_l : ∀ k, (∀ y0 y1 y2 y3 y4 y5, LeO (signalboxlaw07_CrcFinds.j0 k y0 y1 y2 y3 y4 y5) (signalboxlaw07_CrcFinds.j0 (k + 1) y0 y1 y2 y3 y4 y5)) ∧ (∀ y0 y1 y2 y3, LeO (signalboxlaw07_CrcFinds.j1 k y0 y1 y2 y3) (signalboxlaw07_CrcFinds.j1 (k + 1) y0 y1 y2 y3))
  | 0 => ⟨fun _ _ _ _ _ _ r h => by simp [signalboxlaw07_CrcFinds.j0] at h, fun _ _ _ _ r h => by simp [signalboxlaw07_CrcFinds.j1] at h⟩
  | k + 1 => by
    obtain ⟨ih0, ih1⟩ := signalboxlaw07_CrcFinds.mono_l k
    refine ⟨?_, ?_⟩
    · intro y0 y1 y2 y3 y4 y5
      unfold signalboxlaw07_CrcFinds.j0
      repeat' first
      | (with_reducible exact ih0 _ _ _ _ _ _)
      | (with_reducible exact ih1 _ _ _ _)
      | (with_reducible exact signalboxref06_Right.mono _ _)
      | (with_reducible exact signalboxref07_Right.mono _ _ _)
      | (with_reducible exact LeO.refl _)
      | (with_reducible exact LeO.none _)
      | (with_reducible refine LeO.ite ?_ ?_)
      | (with_reducible refine LeO.bind ?_ (fun _ => ?_))
      | exact ih0 _ _ _ _ _ _
      | exact ih1 _ _ _ _
      | exact signalboxref06_Right.mono _ _
      | exact signalboxref07_Right.mono _ _ _
      | exact LeO.none _
      | refine LeO.ite ?_ ?_
      | refine LeO.bind ?_ (fun _ => ?_)
    · intro y0 y1 y2 y3
      unfold signalboxlaw07_CrcFinds.j1
      repeat' first
      | (with_reducible exact ih0 _ _ _ _ _ _)
      | (with_reducible exact ih1 _ _ _ _)
      | (with_reducible exact signalboxref06_Right.mono _ _)
      | (with_reducible exact signalboxref07_Right.mono _ _ _)
      | (with_reducible exact LeO.refl _)
      | (with_reducible exact LeO.none _)
      | (with_reducible refine LeO.ite ?_ ?_)
      | (with_reducible refine LeO.bind ?_ (fun _ => ?_))
      | exact ih0 _ _ _ _ _ _
      | exact ih1 _ _ _ _
      | exact signalboxref06_Right.mono _ _
      | exact signalboxref07_Right.mono _ _ _
      | exact LeO.none _
      | refine LeO.ite ?_ ?_
      | refine LeO.bind ?_ (fun _ => ?_)
theorem signalboxlaw07_CrcFinds.mono : ∀ a0 a1 a2 a3 a4 k, LeO (signalboxlaw07_CrcFinds.f k a0 a1 a2 a3 a4) (signalboxlaw07_CrcFinds.f (k + 1) a0 a1 a2 a3 a4) := by
  intro a0 a1 a2 a3 a4 k
  obtain ⟨ih0, ih1⟩ := signalboxlaw07_CrcFinds.mono_l k
  unfold signalboxlaw07_CrcFinds.f
  repeat' first
      | (with_reducible exact ih0 _ _ _ _ _ _)
      | (with_reducible exact ih1 _ _ _ _)
      | (with_reducible exact signalboxref06_Right.mono _ _)
      | (with_reducible exact signalboxref07_Right.mono _ _ _)
      | (with_reducible exact LeO.refl _)
      | (with_reducible exact LeO.none _)
      | (with_reducible refine LeO.ite ?_ ?_)
      | (with_reducible refine LeO.bind ?_ (fun _ => ?_))
      | exact ih0 _ _ _ _ _ _
      | exact ih1 _ _ _ _
      | exact signalboxref06_Right.mono _ _
      | exact signalboxref07_Right.mono _ _ _
      | exact LeO.none _
      | refine LeO.ite ?_ ?_
      | refine LeO.bind ?_ (fun _ => ?_)
def signalboxlaw07_CrcFinds.T3 : Bool × List (List Nat × List Nat) := (true, [([], []), ([], []), ([0, 1], [0, 1]), ([], []), ([], []), ([], []), ([], []), ([6], [6]), ([5, 7], [5, 7]), ([3, 4, 8], [3, 4, 8]), ([], []), ([9, 10], [9, 10]), ([2, 11], [2, 11]), ([], []), ([], []), ([], []), ([15], [15]), ([14, 16], [14, 16]), ([13, 17], [13, 17]), ([12, 18], [12, 18]), ([19, 11, 0, 1, 2, 3, 4, 5, 6, 7, 8, 9, 10, 11, 12, 13, 14, 15, 16, 17, 18, 19], [19])])
def signalboxlaw07_CrcFinds.B3 : List Nat := [0, 0, 3, 0, 0, 0, 0, 64, 224, 504, 0, 2040, 4095, 0, 0, 0, 32768, 114688, 253952, 524287, 1048575]
theorem signalboxlaw07_CrcFinds.tab3 : rtab .any (opsOf Try.f10 3) = signalboxlaw07_CrcFinds.T3 := by kernel_rfl
theorem signalboxlaw07_CrcFinds.bits3 : waitsOk signalboxlaw07_CrcFinds.T3.2 signalboxlaw07_CrcFinds.B3 = true := by kernel_rfl
set_option maxHeartbeats 8000000 in
set_option maxRecDepth 100000 in
theorem signalboxlaw07_CrcFinds.calls (k : Nat) (a0 : ByteArray) (a1 : ByteArray) (a2 : Int) (a3 : Int) (a4 : Int) (r : Bool) (w : World) (h : signalboxlaw07_CrcFinds.f k a0 a1 a2 a3 a4 = some r) :
    Calls Try.prog 10 #[.string a0, .string a1, .int .i64 a2, .int .i64 a3, .int .i64 a4] w fun e w' => e = .returned (.bool r) ∧ Below w.heap.size w w' := by
  have HB := Aside0.mk (Below.refl w.heap.size w)
  have H : (if (a0.size : Int) > 600 then (signalboxlaw07_CrcFinds.j0 k a0 a1 a2 a3 a4 true) else ((signalboxref06_Right.f k a0).bind fun t203 => (if t203 = true then ((signalboxref06_Right.f k a1).bind fun t204 => (if t204 = true then (if a2 < 0 then (signalboxlaw07_CrcFinds.j0 k a0 a1 a2 a3 a4 true) else (if (a1.size : Int) > (a0.size : Int) then (signalboxlaw07_CrcFinds.j0 k a0 a1 a2 a3 a4 true) else (if a2 > (wrap64 ((a0.size : Int) - (a1.size : Int))) then (signalboxlaw07_CrcFinds.j0 k a0 a1 a2 a3 a4 true) else ((signalboxref07_Right.f k a3 a4).bind fun t205 => (if t205 = true then (if (Int.tmod a4 2) = 0 then (signalboxlaw07_CrcFinds.j0 k a0 a1 a2 a3 a4 true) else (signalboxlaw07_CrcFinds.j0 k a0 a1 a2 a3 a4 (decide ((a1.size : Int) > a3)))) else (signalboxlaw07_CrcFinds.j0 k a0 a1 a2 a3 a4 true)))))) else (signalboxlaw07_CrcFinds.j0 k a0 a1 a2 a3 a4 true))) else (signalboxlaw07_CrcFinds.j0 k a0 a1 a2 a3 a4 true)))) = some r := h
  clear h
  have HC6 := Aside0.mk H
  clear H
  go_enter Try.func10, Try.ntmps10
  go_upto_region 1 with (fail)
  go_cut [65] (fun v65 wc => ∃ (kq : Nat) (x65_5 : Bool), v65 = .bool x65_5 ∧ Aside0 (signalboxlaw07_CrcFinds.j0 kq a0 a1 a2 a3 a4 x65_5 = some r) ∧ Aside0 (kq ≤ k) ∧ Aside0 (Below w.heap.size w wc))
  case first =>
    have H := HC6.out
    clear HC6
    by_cases c7 : (a0.size : Int) > 600
    · rw [if_pos c7] at H
      have c7b0 : decide (600 < (a0.size : Int)) = true := decide_eq_true c7
      have c7b1 : decide (600 < a0.size) = true := decide_eq_true (by omega)
      clear c7
      (first | rw [c7b0] | (simp only [i64_w, i32_w]; rw [c7b0]) | skip)
      have H' := Aside0.mk H
      clear H
      go_wp2
      go_meet
      case rel => exact ⟨_, (true), (by first | rfl | (simp; done) | (simp [*]; done)), H', ⟨by first | omega | exact Nat.le_refl _⟩, ⟨by repeat (first | (with_reducible first | exact HB.out | apply below_alloc | apply pw_below_drewN | apply below_drew1) | exact HB.out)⟩⟩
    · rw [if_neg c7] at H
      have c7b0 : decide (600 < (a0.size : Int)) = false := decide_eq_false c7
      have c7b1 : decide (600 < a0.size) = false := decide_eq_false (by omega)
      clear c7
      (first | rw [c7b0] | (simp only [i64_w, i32_w]; rw [c7b0]) | skip)
      replace H := Option.bind_eq_some_iff.mp H
      obtain ⟨t203, A80, H⟩ := H
      replace H : (if t203 = true then ((signalboxref06_Right.f k a1).bind fun t204 => (if t204 = true then (if a2 < 0 then (signalboxlaw07_CrcFinds.j0 k a0 a1 a2 a3 a4 true) else (if (a1.size : Int) > (a0.size : Int) then (signalboxlaw07_CrcFinds.j0 k a0 a1 a2 a3 a4 true) else (if a2 > (wrap64 ((a0.size : Int) - (a1.size : Int))) then (signalboxlaw07_CrcFinds.j0 k a0 a1 a2 a3 a4 true) else ((signalboxref07_Right.f k a3 a4).bind fun t205 => (if t205 = true then (if (Int.tmod a4 2) = 0 then (signalboxlaw07_CrcFinds.j0 k a0 a1 a2 a3 a4 true) else (signalboxlaw07_CrcFinds.j0 k a0 a1 a2 a3 a4 (decide ((a1.size : Int) > a3)))) else (signalboxlaw07_CrcFinds.j0 k a0 a1 a2 a3 a4 true)))))) else (signalboxlaw07_CrcFinds.j0 k a0 a1 a2 a3 a4 true))) else (signalboxlaw07_CrcFinds.j0 k a0 a1 a2 a3 a4 true)) = some r := H
      have A8 := Aside0.mk A80
      clear A80
      by_cases c9 : t203 = true
      · subst c9
        have H1 : ((signalboxref06_Right.f k a1).bind fun t204 => (if t204 = true then (if a2 < 0 then (signalboxlaw07_CrcFinds.j0 k a0 a1 a2 a3 a4 true) else (if (a1.size : Int) > (a0.size : Int) then (signalboxlaw07_CrcFinds.j0 k a0 a1 a2 a3 a4 true) else (if a2 > (wrap64 ((a0.size : Int) - (a1.size : Int))) then (signalboxlaw07_CrcFinds.j0 k a0 a1 a2 a3 a4 true) else ((signalboxref07_Right.f k a3 a4).bind fun t205 => (if t205 = true then (if (Int.tmod a4 2) = 0 then (signalboxlaw07_CrcFinds.j0 k a0 a1 a2 a3 a4 true) else (signalboxlaw07_CrcFinds.j0 k a0 a1 a2 a3 a4 (decide ((a1.size : Int) > a3)))) else (signalboxlaw07_CrcFinds.j0 k a0 a1 a2 a3 a4 true)))))) else (signalboxlaw07_CrcFinds.j0 k a0 a1 a2 a3 a4 true))) = some r := by rw [if_pos rfl] at H; exact H
        clear H
        have H := H1
        clear H1
        replace H := Option.bind_eq_some_iff.mp H
        obtain ⟨t204, A100, H⟩ := H
        replace H : (if t204 = true then (if a2 < 0 then (signalboxlaw07_CrcFinds.j0 k a0 a1 a2 a3 a4 true) else (if (a1.size : Int) > (a0.size : Int) then (signalboxlaw07_CrcFinds.j0 k a0 a1 a2 a3 a4 true) else (if a2 > (wrap64 ((a0.size : Int) - (a1.size : Int))) then (signalboxlaw07_CrcFinds.j0 k a0 a1 a2 a3 a4 true) else ((signalboxref07_Right.f k a3 a4).bind fun t205 => (if t205 = true then (if (Int.tmod a4 2) = 0 then (signalboxlaw07_CrcFinds.j0 k a0 a1 a2 a3 a4 true) else (signalboxlaw07_CrcFinds.j0 k a0 a1 a2 a3 a4 (decide ((a1.size : Int) > a3)))) else (signalboxlaw07_CrcFinds.j0 k a0 a1 a2 a3 a4 true)))))) else (signalboxlaw07_CrcFinds.j0 k a0 a1 a2 a3 a4 true)) = some r := H
        have A10 := Aside0.mk A100
        clear A100
        by_cases c11 : t204 = true
        · subst c11
          have H1 : (if a2 < 0 then (signalboxlaw07_CrcFinds.j0 k a0 a1 a2 a3 a4 true) else (if (a1.size : Int) > (a0.size : Int) then (signalboxlaw07_CrcFinds.j0 k a0 a1 a2 a3 a4 true) else (if a2 > (wrap64 ((a0.size : Int) - (a1.size : Int))) then (signalboxlaw07_CrcFinds.j0 k a0 a1 a2 a3 a4 true) else ((signalboxref07_Right.f k a3 a4).bind fun t205 => (if t205 = true then (if (Int.tmod a4 2) = 0 then (signalboxlaw07_CrcFinds.j0 k a0 a1 a2 a3 a4 true) else (signalboxlaw07_CrcFinds.j0 k a0 a1 a2 a3 a4 (decide ((a1.size : Int) > a3)))) else (signalboxlaw07_CrcFinds.j0 k a0 a1 a2 a3 a4 true)))))) = some r := by rw [if_pos rfl] at H; exact H
          clear H
          have H := H1
          clear H1
          by_cases c12 : a2 < 0
          · rw [if_pos c12] at H
            have c12b0 : decide (a2 < 0) = true := decide_eq_true c12
            clear c12
            have H' := Aside0.mk H
            clear H
            go_wp2_with (first | (go_at_call 28; (with_reducible refine (signalboxref06_Right.calls k a0 true _ A8.out).mono ?_); rintro e w' ⟨rfl, ⟨nd, rfl⟩⟩) | (go_at_call 28; (with_reducible refine (signalboxref06_Right.calls k a1 true _ A10.out).mono ?_); rintro e w' ⟨rfl, ⟨nd, rfl⟩⟩))
            go_meet
            case rel => exact ⟨_, (true), (by first | rfl | (simp; done) | (simp [*]; done)), H', ⟨by first | omega | exact Nat.le_refl _⟩, ⟨by repeat (first | (with_reducible first | exact HB.out | apply below_alloc | apply pw_below_drewN | apply below_drew1) | exact HB.out)⟩⟩
          · rw [if_neg c12] at H
            have c12b0 : decide (a2 < 0) = false := decide_eq_false c12
            clear c12
            by_cases c13 : (a1.size : Int) > (a0.size : Int)
            · rw [if_pos c13] at H
              have c13b0 : decide ((a0.size : Int) < (a1.size : Int)) = true := decide_eq_true c13
              have c13b1 : decide (a0.size < a1.size) = true := decide_eq_true (Int.ofNat_lt.mp c13)
              clear c13
              have H' := Aside0.mk H
              clear H
              go_wp2_with (first | (go_at_call 28; (with_reducible refine (signalboxref06_Right.calls k a0 true _ A8.out).mono ?_); rintro e w' ⟨rfl, ⟨nd, rfl⟩⟩) | (go_at_call 28; (with_reducible refine (signalboxref06_Right.calls k a1 true _ A10.out).mono ?_); rintro e w' ⟨rfl, ⟨nd, rfl⟩⟩))
              go_meet
              case rel => exact ⟨_, (true), (by first | rfl | (simp; done) | (simp [*]; done)), H', ⟨by first | omega | exact Nat.le_refl _⟩, ⟨by repeat (first | (with_reducible first | exact HB.out | apply below_alloc | apply pw_below_drewN | apply below_drew1) | exact HB.out)⟩⟩
            · rw [if_neg c13] at H
              have c13b0 : decide ((a0.size : Int) < (a1.size : Int)) = false := decide_eq_false c13
              have c13b1 : decide (a0.size < a1.size) = false := decide_eq_false (fun h => c13 (Int.ofNat_lt.mpr h))
              clear c13
              by_cases c14 : a2 > (wrap64 ((a0.size : Int) - (a1.size : Int)))
              · rw [if_pos c14] at H
                have c14b0 : decide ((wrap64 ((a0.size : Int) - (a1.size : Int))) < a2) = true := decide_eq_true c14
                clear c14
                have H' := Aside0.mk H
                clear H
                go_wp2_with (first | (go_at_call 28; (with_reducible refine (signalboxref06_Right.calls k a0 true _ A8.out).mono ?_); rintro e w' ⟨rfl, ⟨nd, rfl⟩⟩) | (go_at_call 28; (with_reducible refine (signalboxref06_Right.calls k a1 true _ A10.out).mono ?_); rintro e w' ⟨rfl, ⟨nd, rfl⟩⟩))
                go_meet
                case rel => exact ⟨_, (true), (by first | rfl | (simp; done) | (simp [*]; done)), H', ⟨by first | omega | exact Nat.le_refl _⟩, ⟨by repeat (first | (with_reducible first | exact HB.out | apply below_alloc | apply pw_below_drewN | apply below_drew1) | exact HB.out)⟩⟩
              · rw [if_neg c14] at H
                have c14b0 : decide ((wrap64 ((a0.size : Int) - (a1.size : Int))) < a2) = false := decide_eq_false c14
                clear c14
                replace H := Option.bind_eq_some_iff.mp H
                obtain ⟨t205, A150, H⟩ := H
                replace H : (if t205 = true then (if (Int.tmod a4 2) = 0 then (signalboxlaw07_CrcFinds.j0 k a0 a1 a2 a3 a4 true) else (signalboxlaw07_CrcFinds.j0 k a0 a1 a2 a3 a4 (decide ((a1.size : Int) > a3)))) else (signalboxlaw07_CrcFinds.j0 k a0 a1 a2 a3 a4 true)) = some r := H
                have A15 := Aside0.mk A150
                clear A150
                by_cases c16 : t205 = true
                · subst c16
                  have H1 : (if (Int.tmod a4 2) = 0 then (signalboxlaw07_CrcFinds.j0 k a0 a1 a2 a3 a4 true) else (signalboxlaw07_CrcFinds.j0 k a0 a1 a2 a3 a4 (decide ((a1.size : Int) > a3)))) = some r := by rw [if_pos rfl] at H; exact H
                  clear H
                  have H := H1
                  clear H1
                  by_cases c17 : (Int.tmod a4 2) = 0
                  · rw [if_pos c17] at H
                    have c17b0 : ((Int.tmod a4 2) == 0) = true := beq_iff_eq.mpr c17
                    have c17b1 : ((Int.tmod a4 2) != 0) = false := bne_eq_false_iff_eq.mpr c17
                    clear c17
                    have H' := Aside0.mk H
                    clear H
                    go_wp2_with (first | (go_at_call 28; (with_reducible refine (signalboxref06_Right.calls k a0 true _ A8.out).mono ?_); rintro e w' ⟨rfl, ⟨nd, rfl⟩⟩) | (go_at_call 28; (with_reducible refine (signalboxref06_Right.calls k a1 true _ A10.out).mono ?_); rintro e w' ⟨rfl, ⟨nd, rfl⟩⟩) | (go_at_call 29; (with_reducible refine (signalboxref07_Right.calls k a3 a4 true _ A15.out).mono ?_); rintro e w' ⟨rfl, ⟨nd, rfl⟩⟩))
                    go_meet
                    case rel => exact ⟨_, (true), (by first | rfl | (simp; done) | (simp [*]; done)), H', ⟨by first | omega | exact Nat.le_refl _⟩, ⟨by repeat (first | (with_reducible first | exact HB.out | apply below_alloc | apply pw_below_drewN | apply below_drew1) | exact HB.out)⟩⟩
                  · rw [if_neg c17] at H
                    have c17b0 : ((Int.tmod a4 2) == 0) = false := beq_eq_false_iff_ne.mpr c17
                    have c17b1 : ((Int.tmod a4 2) != 0) = true := bne_iff_ne.mpr c17
                    have H' := Aside0.mk H
                    clear H
                    go_wp2_with (first | (go_at_call 28; (with_reducible refine (signalboxref06_Right.calls k a0 true _ A8.out).mono ?_); rintro e w' ⟨rfl, ⟨nd, rfl⟩⟩) | (go_at_call 28; (with_reducible refine (signalboxref06_Right.calls k a1 true _ A10.out).mono ?_); rintro e w' ⟨rfl, ⟨nd, rfl⟩⟩) | (go_at_call 29; (with_reducible refine (signalboxref07_Right.calls k a3 a4 true _ A15.out).mono ?_); rintro e w' ⟨rfl, ⟨nd, rfl⟩⟩))
                    go_meet
                    case rel => exact ⟨_, (decide ((a1.size : Int) > a3)), (by first | rfl | (simp; done) | (simp [*]; done)), H', ⟨by first | omega | exact Nat.le_refl _⟩, ⟨by repeat (first | (with_reducible first | exact HB.out | apply below_alloc | apply pw_below_drewN | apply below_drew1) | exact HB.out)⟩⟩
                · replace c16 := Bool.eq_false_iff.mpr c16
                  subst c16
                  have H1 : (signalboxlaw07_CrcFinds.j0 k a0 a1 a2 a3 a4 true) = some r := by rw [if_neg (show ¬ (false = true) by decide)] at H; exact H
                  clear H
                  have H := H1
                  clear H1
                  have H' := Aside0.mk H
                  clear H
                  go_wp2_with (first | (go_at_call 28; (with_reducible refine (signalboxref06_Right.calls k a0 true _ A8.out).mono ?_); rintro e w' ⟨rfl, ⟨nd, rfl⟩⟩) | (go_at_call 28; (with_reducible refine (signalboxref06_Right.calls k a1 true _ A10.out).mono ?_); rintro e w' ⟨rfl, ⟨nd, rfl⟩⟩) | (go_at_call 29; (with_reducible refine (signalboxref07_Right.calls k a3 a4 false _ A15.out).mono ?_); rintro e w' ⟨rfl, ⟨nd, rfl⟩⟩))
                  go_meet
                  case rel => exact ⟨_, (true), (by first | rfl | (simp; done) | (simp [*]; done)), H', ⟨by first | omega | exact Nat.le_refl _⟩, ⟨by repeat (first | (with_reducible first | exact HB.out | apply below_alloc | apply pw_below_drewN | apply below_drew1) | exact HB.out)⟩⟩
        · replace c11 := Bool.eq_false_iff.mpr c11
          subst c11
          have H1 : (signalboxlaw07_CrcFinds.j0 k a0 a1 a2 a3 a4 true) = some r := by rw [if_neg (show ¬ (false = true) by decide)] at H; exact H
          clear H
          have H := H1
          clear H1
          have H' := Aside0.mk H
          clear H
          go_wp2_with (first | (go_at_call 28; (with_reducible refine (signalboxref06_Right.calls k a0 true _ A8.out).mono ?_); rintro e w' ⟨rfl, ⟨nd, rfl⟩⟩) | (go_at_call 28; (with_reducible refine (signalboxref06_Right.calls k a1 false _ A10.out).mono ?_); rintro e w' ⟨rfl, ⟨nd, rfl⟩⟩))
          go_meet
          case rel => exact ⟨_, (true), (by first | rfl | (simp; done) | (simp [*]; done)), H', ⟨by first | omega | exact Nat.le_refl _⟩, ⟨by repeat (first | (with_reducible first | exact HB.out | apply below_alloc | apply pw_below_drewN | apply below_drew1) | exact HB.out)⟩⟩
      · replace c9 := Bool.eq_false_iff.mpr c9
        subst c9
        have H1 : (signalboxlaw07_CrcFinds.j0 k a0 a1 a2 a3 a4 true) = some r := by rw [if_neg (show ¬ (false = true) by decide)] at H; exact H
        clear H
        have H := H1
        clear H1
        have H' := Aside0.mk H
        clear H
        go_wp2_with (first | (go_at_call 28; (with_reducible refine (signalboxref06_Right.calls k a0 false _ A8.out).mono ?_); rintro e w' ⟨rfl, ⟨nd, rfl⟩⟩))
        go_meet
        case rel => exact ⟨_, (true), (by first | rfl | (simp; done) | (simp [*]; done)), H', ⟨by first | omega | exact Nat.le_refl _⟩, ⟨by repeat (first | (with_reducible first | exact HB.out | apply below_alloc | apply pw_below_drewN | apply below_drew1) | exact HB.out)⟩⟩
  case rest =>
    clear HC6
    try clear c1
    try clear p2
    try clear p6
    try clear c7
    try clear c7b0
    try clear c7b1
    try clear c9
    try clear c10
    try clear c11
    try clear c12
    try clear c12b0
    try clear c13
    try clear c13b0
    try clear c13b1
    try clear c14
    try clear c14b0
    try clear c16
    try clear c17
    try clear c17b0
    try clear c17b1
    obtain ⟨kq, x65_5, rfl, HA, HJ5, HB⟩ := hcut
    cases kq with
    | zero => exact absurd HA.out (by simp [signalboxlaw07_CrcFinds.j0])
    | succ kj5 =>
      have H := HA.out
      clear HA
      simp only [signalboxlaw07_CrcFinds.j0] at H
      by_cases c18 : x65_5 = true
      · subst c18
        have H1 : ((signalboxlaw07_alive.f).bind fun t206 => (some t206)) = some r := by rw [if_pos rfl] at H; exact H
        clear H
        have H := H1
        clear H1
        replace H := Option.bind_eq_some_iff.mp H
        obtain ⟨t206, A190, H⟩ := H
        replace H : (some t206) = some r := H
        have A19 := Aside0.mk A190
        clear A190
        obtain rfl := Option.some.inj H
        go_wp2_with (first | ((with_reducible refine gate_callee (f := 15) rfl ?_); refine goesL_ (some 66) rfl rfl Try.func15 (by kernel_rfl) rfl #[] rfl (by (try simp only [List.map_toArray, List.map_cons, List.map_nil]); first | done | rfl | (simp only [List.length_drop, List.length_take]; rfl)) ?_; (with_reducible refine (signalboxlaw07_alive.calls  t206 _ A19.out).mono ?_); rintro e w20 ⟨rfl, hb⟩; refine ⟨_, rfl, ?_⟩; have n0_ := Aside0.mk (below_step (by repeat (first | (with_reducible first | exact HB.out | apply below_alloc | apply pw_below_drewN | apply below_drew1) | exact HB.out)) hb); clear HB; have HB := n0_; clear n0_; (try clear hb); (try clear hb2); (try clear hk); (try clear hi)))
        go_ret
        exact ⟨by first | rfl | (simp [errW_none, errW_some] <;> rfl) | (simp [*, errW_none, errW_some] <;> rfl), by repeat (first | (with_reducible first | exact HB.out | apply below_alloc | apply pw_below_drewN | apply below_drew1) | exact HB.out)⟩
      · replace c18 := Bool.eq_false_iff.mpr c18
        subst c18
        have H1 : (if 0 ≤ a2 then (if a2 ≤ (a0.size : Int) then (if a2 ≤ (wrap64 (a2 + (a1.size : Int))) then (if (wrap64 (a2 + (a1.size : Int))) ≤ (a0.size : Int) then ((crc_Add.f (a0.extract (a2 : Int).toNat ((wrap64 (a2 + (a1.size : Int))) : Int).toNat) a1).bind fun t207 => (if (a0.extract 0 (a2 : Int).toNat).size + t207.size ≤ 9223372036854775807 then (if 0 ≤ (wrap64 (a2 + (a1.size : Int))) then (if ((a0.extract 0 (a2 : Int).toNat) ++ t207).size + (a0.extract ((wrap64 (a2 + (a1.size : Int))) : Int).toNat a0.size).size ≤ 9223372036854775807 then ((crc_Sum.f a0 a3 a4).bind fun bt208 => ((crc_Sum.f (((a0.extract 0 (a2 : Int).toNat) ++ t207) ++ (a0.extract ((wrap64 (a2 + (a1.size : Int))) : Int).toNat a0.size)) a3 a4).bind fun bt210 => (if bt208.2 = true then (if bt210.2 = true then (signalboxlaw07_CrcFinds.j1 kj5 a0 a1 (((a0.extract 0 (a2 : Int).toNat) ++ t207) ++ (a0.extract ((wrap64 (a2 + (a1.size : Int))) : Int).toNat a0.size)) ((bt208.1 == bt210.1) != (a0.toList == (((a0.extract 0 (a2 : Int).toNat) ++ t207) ++ (a0.extract ((wrap64 (a2 + (a1.size : Int))) : Int).toNat a0.size)).toList))) else (signalboxlaw07_CrcFinds.j1 kj5 a0 a1 (((a0.extract 0 (a2 : Int).toNat) ++ t207) ++ (a0.extract ((wrap64 (a2 + (a1.size : Int))) : Int).toNat a0.size)) true)) else (signalboxlaw07_CrcFinds.j1 kj5 a0 a1 (((a0.extract 0 (a2 : Int).toNat) ++ t207) ++ (a0.extract ((wrap64 (a2 + (a1.size : Int))) : Int).toNat a0.size)) true)))) else (none)) else (none)) else (none))) else (none)) else (none)) else (none)) else (none)) = some r := by rw [if_neg (show ¬ (false = true) by decide)] at H; exact H
        clear H
        have H := H1
        clear H1
        by_cases c21 : 0 ≤ a2
        · rw [if_pos c21] at H
          have c21b0 := eq_true c21
          have c21b1 : decide (0 ≤ a2) = true := decide_eq_true c21
          clear c21
          by_cases c22 : a2 ≤ (a0.size : Int)
          · rw [if_pos c22] at H
            have c22b0 := eq_true c22
            have c22b1 : decide (a2 ≤ (a0.size : Int)) = true := decide_eq_true c22
            clear c22
            have c23b0 := eq_true (of_decide_eq_true (by first | (with_reducible assumption) | assumption) : 0 ≤ a2)
            by_cases c24 : a2 ≤ (wrap64 (a2 + (a1.size : Int)))
            · rw [if_pos c24] at H
              have c24b0 := eq_true c24
              have c24b1 : decide (a2 ≤ (wrap64 (a2 + (a1.size : Int)))) = true := decide_eq_true c24
              by_cases c25 : (wrap64 (a2 + (a1.size : Int))) ≤ (a0.size : Int)
              · rw [if_pos c25] at H
                have c25b0 := eq_true c25
                have c25b1 : decide ((wrap64 (a2 + (a1.size : Int))) ≤ (a0.size : Int)) = true := decide_eq_true c25
                replace H := Option.bind_eq_some_iff.mp H
                obtain ⟨t207, A260, H⟩ := H
                replace H : (if (a0.extract 0 (a2 : Int).toNat).size + t207.size ≤ 9223372036854775807 then (if 0 ≤ (wrap64 (a2 + (a1.size : Int))) then (if ((a0.extract 0 (a2 : Int).toNat) ++ t207).size + (a0.extract ((wrap64 (a2 + (a1.size : Int))) : Int).toNat a0.size).size ≤ 9223372036854775807 then ((crc_Sum.f a0 a3 a4).bind fun bt208 => ((crc_Sum.f (((a0.extract 0 (a2 : Int).toNat) ++ t207) ++ (a0.extract ((wrap64 (a2 + (a1.size : Int))) : Int).toNat a0.size)) a3 a4).bind fun bt210 => (if bt208.2 = true then (if bt210.2 = true then (signalboxlaw07_CrcFinds.j1 kj5 a0 a1 (((a0.extract 0 (a2 : Int).toNat) ++ t207) ++ (a0.extract ((wrap64 (a2 + (a1.size : Int))) : Int).toNat a0.size)) ((bt208.1 == bt210.1) != (a0.toList == (((a0.extract 0 (a2 : Int).toNat) ++ t207) ++ (a0.extract ((wrap64 (a2 + (a1.size : Int))) : Int).toNat a0.size)).toList))) else (signalboxlaw07_CrcFinds.j1 kj5 a0 a1 (((a0.extract 0 (a2 : Int).toNat) ++ t207) ++ (a0.extract ((wrap64 (a2 + (a1.size : Int))) : Int).toNat a0.size)) true)) else (signalboxlaw07_CrcFinds.j1 kj5 a0 a1 (((a0.extract 0 (a2 : Int).toNat) ++ t207) ++ (a0.extract ((wrap64 (a2 + (a1.size : Int))) : Int).toNat a0.size)) true)))) else (none)) else (none)) else (none)) = some r := H
                have A26 := Aside0.mk A260
                clear A260
                by_cases c27 : (a0.extract 0 (a2 : Int).toNat).size + t207.size ≤ 9223372036854775807
                · rw [if_pos c27] at H
                  have c27b0 := eq_true c27
                  have c27b1 : decide ((a0.extract 0 (a2 : Int).toNat).size + t207.size ≤ 9223372036854775807) = true := decide_eq_true c27
                  try have c27b2 : (9223372036854775807 < (a0.extract 0 (a2 : Int).toNat).size + t207.size) = False := eq_false (Nat.not_lt.2 c27)
                  try (have c27b4 := c27b2; simp [ByteArray.size_append, ByteArray.size_extract, *, -c27b2] at c27b4; have c27b5 := eq_false (Nat.not_lt.2 c27b4))
                  obtain ⟨ji28, hji28⟩ : ∃ j_ : Int, (wrap64 (a2 + (a1.size : Int))) = j_ := ⟨_, rfl⟩
                  replace H : (if 0 ≤ (ji28) then (if ((a0.extract 0 (a2 : Int).toNat) ++ t207).size + (a0.extract ((ji28) : Int).toNat a0.size).size ≤ 9223372036854775807 then ((crc_Sum.f a0 a3 a4).bind fun bt208 => ((crc_Sum.f (((a0.extract 0 (a2 : Int).toNat) ++ t207) ++ (a0.extract ((ji28) : Int).toNat a0.size)) a3 a4).bind fun bt210 => (if bt208.2 = true then (if bt210.2 = true then (signalboxlaw07_CrcFinds.j1 kj5 a0 a1 (((a0.extract 0 (a2 : Int).toNat) ++ t207) ++ (a0.extract ((ji28) : Int).toNat a0.size)) ((bt208.1 == bt210.1) != (a0.toList == (((a0.extract 0 (a2 : Int).toNat) ++ t207) ++ (a0.extract ((ji28) : Int).toNat a0.size)).toList))) else (signalboxlaw07_CrcFinds.j1 kj5 a0 a1 (((a0.extract 0 (a2 : Int).toNat) ++ t207) ++ (a0.extract ((ji28) : Int).toNat a0.size)) true)) else (signalboxlaw07_CrcFinds.j1 kj5 a0 a1 (((a0.extract 0 (a2 : Int).toNat) ++ t207) ++ (a0.extract ((ji28) : Int).toNat a0.size)) true)))) else (none)) else (none)) = some r := by first | (rw [hji28] at H; exact H) | (simp only [hji28] at H ⊢; exact H)
                  (try rw [hji28] at c24b0)
                  (try rw [hji28] at c24b1)
                  (try rw [hji28] at c24)
                  (try rw [hji28] at c25b0)
                  (try rw [hji28] at c25b1)
                  (try rw [hji28] at c25)
                  (try rw [hji28] at A26)
                  have hji28w : (IntKind.i64.wrap (a2 + (a1.size : Int))) = ji28 := (i64_w _).trans hji28
                  by_cases c29 : 0 ≤ (ji28)
                  · rw [if_pos c29] at H
                    have c29b0 := eq_true c29
                    have c29b1 : decide (0 ≤ (ji28)) = true := decide_eq_true c29
                    clear c29
                    have c30b0 := eq_true (of_decide_eq_true (by first | (with_reducible assumption) | assumption) : (ji28) ≤ (a0.size : Int))
                    by_cases c31 : ((a0.extract 0 (a2 : Int).toNat) ++ t207).size + (a0.extract ((ji28) : Int).toNat a0.size).size ≤ 9223372036854775807
                    · rw [if_pos c31] at H
                      have c31b0 := eq_true c31
                      have c31b1 : decide (((a0.extract 0 (a2 : Int).toNat) ++ t207).size + (a0.extract ((ji28) : Int).toNat a0.size).size ≤ 9223372036854775807) = true := decide_eq_true c31
                      try have c31b2 : (9223372036854775807 < ((a0.extract 0 (a2 : Int).toNat) ++ t207).size + (a0.extract ((ji28) : Int).toNat a0.size).size) = False := eq_false (Nat.not_lt.2 c31)
                      try (have c31b4 := c31b2; simp [ByteArray.size_append, ByteArray.size_extract, *, -c31b2] at c31b4; have c31b5 := eq_false (Nat.not_lt.2 c31b4))
                      replace H := Option.bind_eq_some_iff.mp H
                      obtain ⟨⟨t208, t209⟩, A320, H⟩ := H
                      replace H : ((crc_Sum.f (((a0.extract 0 (a2 : Int).toNat) ++ t207) ++ (a0.extract ((ji28) : Int).toNat a0.size)) a3 a4).bind fun bt210 => (if t209 = true then (if bt210.2 = true then (signalboxlaw07_CrcFinds.j1 kj5 a0 a1 (((a0.extract 0 (a2 : Int).toNat) ++ t207) ++ (a0.extract ((ji28) : Int).toNat a0.size)) ((t208 == bt210.1) != (a0.toList == (((a0.extract 0 (a2 : Int).toNat) ++ t207) ++ (a0.extract ((ji28) : Int).toNat a0.size)).toList))) else (signalboxlaw07_CrcFinds.j1 kj5 a0 a1 (((a0.extract 0 (a2 : Int).toNat) ++ t207) ++ (a0.extract ((ji28) : Int).toNat a0.size)) true)) else (signalboxlaw07_CrcFinds.j1 kj5 a0 a1 (((a0.extract 0 (a2 : Int).toNat) ++ t207) ++ (a0.extract ((ji28) : Int).toNat a0.size)) true))) = some r := H
                      have A32 := Aside0.mk A320
                      clear A320
                      replace H := Option.bind_eq_some_iff.mp H
                      obtain ⟨⟨t210, t211⟩, A330, H⟩ := H
                      replace H : (if t209 = true then (if t211 = true then (signalboxlaw07_CrcFinds.j1 kj5 a0 a1 (((a0.extract 0 (a2 : Int).toNat) ++ t207) ++ (a0.extract ((ji28) : Int).toNat a0.size)) ((t208 == t210) != (a0.toList == (((a0.extract 0 (a2 : Int).toNat) ++ t207) ++ (a0.extract ((ji28) : Int).toNat a0.size)).toList))) else (signalboxlaw07_CrcFinds.j1 kj5 a0 a1 (((a0.extract 0 (a2 : Int).toNat) ++ t207) ++ (a0.extract ((ji28) : Int).toNat a0.size)) true)) else (signalboxlaw07_CrcFinds.j1 kj5 a0 a1 (((a0.extract 0 (a2 : Int).toNat) ++ t207) ++ (a0.extract ((ji28) : Int).toNat a0.size)) true)) = some r := H
                      have A33 := Aside0.mk A330
                      clear A330
                      have HC34 := Aside0.mk H
                      clear H
                      try go_wp2
                      have n0_ := Aside0.mk (below_drew1 HB.out)
                      clear HB
                      have HB := n0_
                      clear n0_
                      refine start_ (n := 21) (S := fun w' => True) (ds := []) #[false, false, false, false, false, false, false, false, false, false, false, false, false, false, false, false, false, false, false, false, false] (by kernel_rfl) rfl rfl trivial (fun hHeld => ?_); refine with_tabW signalboxlaw07_CrcFinds.tab3 signalboxlaw07_CrcFinds.bits3 (fun HT_ HW_ => ?_)
                      generalize wc.drew = w35 at HB hHeld ⊢
                      refine pure_ (i := 0) (N := some 67) (v := ?_) (a' := ?_) #[true, false, false, false, false, false, false, false, false, false, false, false, false, false, false, false, false, false, false, false, false] rfl rfl (any_of HT_.out (by kernel_rfl)) (fun _ _ _ h => h) (Or.inl ⟨by rfl, ?_⟩) ?_ ?_
                      rotate_left
                      · intro w'
                        go_simp
                        with_reducible rfl
                      rotate_left
                      · simp only [Act.put, List.setIfInBounds_toArray, List.set_cons_zero, List.set_cons_succ, i64_w, i32_w]
                        rfl
                      refine pure_ (i := 1) (N := some 68) (v := ?_) (a' := ?_) #[true, true, false, false, false, false, false, false, false, false, false, false, false, false, false, false, false, false, false, false, false] rfl rfl (any_of HT_.out (by kernel_rfl)) (fun _ _ _ h => h) (Or.inl ⟨by rfl, ?_⟩) ?_ ?_
                      rotate_left
                      · intro w'
                        go_simp
                        with_reducible rfl
                      rotate_left
                      · simp only [Act.put, List.setIfInBounds_toArray, List.set_cons_zero, List.set_cons_succ, i64_w, i32_w]
                        rfl
                      refine pure_ (i := 2) (N := some 69) (v := ?_) (a' := ?_) #[true, true, true, false, false, false, false, false, false, false, false, false, false, false, false, false, false, false, false, false, false] rfl rfl (any_of HT_.out (by kernel_rfl)) (fun _ _ _ h => h) (Or.inl ⟨by rfl, ?_⟩) ?_ ?_
                      rotate_left
                      · intro w'
                        go_simp
                        with_reducible rfl
                      rotate_left
                      · simp only [Act.put, List.setIfInBounds_toArray, List.set_cons_zero, List.set_cons_succ, i64_w, i32_w]
                        rfl
                      refine pure_ (i := 3) (N := some 70) (v := ?_) (a' := ?_) #[true, true, true, true, false, false, false, false, false, false, false, false, false, false, false, false, false, false, false, false, false] rfl rfl (any_of HT_.out (by kernel_rfl)) (fun _ _ _ h => h) (Or.inl ⟨by rfl, ?_⟩) ?_ ?_
                      rotate_left
                      · intro w'
                        go_simp
                        with_reducible rfl
                      rotate_left
                      · simp only [Act.put, List.setIfInBounds_toArray, List.set_cons_zero, List.set_cons_succ, i64_w, i32_w]
                        rfl
                      refine pure_ (i := 4) (N := some 71) (v := ?_) (a' := ?_) #[true, true, true, true, true, false, false, false, false, false, false, false, false, false, false, false, false, false, false, false, false] rfl rfl (any_of HT_.out (by kernel_rfl)) (fun _ _ _ h => h) (Or.inl ⟨by rfl, ?_⟩) ?_ ?_
                      rotate_left
                      · intro w'
                        go_simp
                        with_reducible rfl
                      rotate_left
                      · simp only [Act.put, List.setIfInBounds_toArray, List.set_cons_zero, List.set_cons_succ, i64_w, i32_w]
                        rfl
                      refine pure_ (i := 5) (N := some 72) (v := ?_) (a' := ?_) #[true, true, true, true, true, true, false, false, false, false, false, false, false, false, false, false, false, false, false, false, false] rfl rfl (any_of HT_.out (by kernel_rfl)) (fun _ _ _ h => h) (Or.inl ⟨by rfl, ?_⟩) ?_ ?_
                      rotate_left
                      · intro w'
                        go_simp
                        with_reducible rfl
                      rotate_left
                      · simp only [Act.put, List.setIfInBounds_toArray, List.set_cons_zero, List.set_cons_succ, i64_w, i32_w]
                        rfl
                      refine pure_ (i := 6) (N := some 73) (v := ?_) (a' := ?_) #[true, true, true, true, true, true, true, false, false, false, false, false, false, false, false, false, false, false, false, false, false] rfl rfl (any_of HT_.out (by kernel_rfl)) (fun _ _ _ h => h) (Or.inl ⟨by rfl, ?_⟩) ?_ ?_
                      rotate_left
                      · intro w'
                        go_simp
                        with_reducible rfl
                      rotate_left
                      · simp only [Act.put, List.setIfInBounds_toArray, List.set_cons_zero, List.set_cons_succ, i64_w, i32_w]
                        rfl
                      refine pure_ (i := 7) (N := some 74) (v := ?_) (a' := ?_) #[true, true, true, true, true, true, true, true, false, false, false, false, false, false, false, false, false, false, false, false, false] rfl rfl (any_of HT_.out (by kernel_rfl)) (fun _ _ _ h => h) (Or.inl ⟨by rfl, ?_⟩) ?_ ?_
                      rotate_left
                      · intro w'
                        go_simp
                        with_reducible rfl
                      rotate_left
                      · simp only [Act.put, List.setIfInBounds_toArray, List.set_cons_zero, List.set_cons_succ, i64_w, i32_w]
                        rfl
                      refine pure_ (i := 8) (N := some 75) (v := ?_) (a' := ?_) #[true, true, true, true, true, true, true, true, true, false, false, false, false, false, false, false, false, false, false, false, false] rfl rfl (any_of HT_.out (by kernel_rfl)) (fun _ _ _ h => h) (Or.inl ⟨by rfl, ?_⟩) ?_ ?_
                      rotate_left
                      · intro w'
                        go_simp
                        with_reducible rfl
                      rotate_left
                      · simp only [Act.put, List.setIfInBounds_toArray, List.set_cons_zero, List.set_cons_succ, i64_w, i32_w]
                        rfl
                      refine pure_ (i := 9) (N := some 76) (v := ?_) (a' := ?_) #[true, true, true, true, true, true, true, true, true, true, false, false, false, false, false, false, false, false, false, false, false] rfl rfl (any_of HT_.out (by kernel_rfl)) (fun _ _ _ h => h) (Or.inl ⟨by rfl, ?_⟩) ?_ ?_
                      rotate_left
                      · intro w'
                        go_simp
                        with_reducible rfl
                      rotate_left
                      · simp only [Act.put, List.setIfInBounds_toArray, List.set_cons_zero, List.set_cons_succ, i64_w, i32_w]
                        rfl
                      refine pure_ (i := 10) (N := some 77) (v := ?_) (a' := ?_) #[true, true, true, true, true, true, true, true, true, true, true, false, false, false, false, false, false, false, false, false, false] rfl rfl (any_of HT_.out (by kernel_rfl)) (fun _ _ _ h => h) (Or.inl ⟨by rfl, ?_⟩) ?_ ?_
                      rotate_left
                      · intro w'
                        go_simp
                        with_reducible rfl
                      rotate_left
                      · simp only [Act.put, List.setIfInBounds_toArray, List.set_cons_zero, List.set_cons_succ, i64_w, i32_w]
                        rfl
                      refine pure_ (i := 13) (N := some 80) (v := ?_) (a' := ?_) #[true, true, true, true, true, true, true, true, true, true, true, false, false, true, false, false, false, false, false, false, false] rfl rfl (any_of HT_.out (by kernel_rfl)) (fun _ _ _ h => h) (Or.inl ⟨by rfl, ?_⟩) ?_ ?_
                      rotate_left
                      · intro w'
                        go_simp
                        with_reducible rfl
                      rotate_left
                      · simp only [Act.put, List.setIfInBounds_toArray, List.set_cons_zero, List.set_cons_succ, i64_w, i32_w]
                        rfl
                      refine pure_ (i := 14) (N := some 81) (v := ?_) (a' := ?_) #[true, true, true, true, true, true, true, true, true, true, true, false, false, true, true, false, false, false, false, false, false] rfl rfl (any_of HT_.out (by kernel_rfl)) (fun _ _ _ h => h) (Or.inl ⟨by rfl, ?_⟩) ?_ ?_
                      rotate_left
                      · intro w'
                        go_simp
                        with_reducible rfl
                      rotate_left
                      · simp only [Act.put, List.setIfInBounds_toArray, List.set_cons_zero, List.set_cons_succ, i64_w, i32_w]
                        rfl
                      refine pure_ (i := 15) (N := some 82) (v := ?_) (a' := ?_) #[true, true, true, true, true, true, true, true, true, true, true, false, false, true, true, true, false, false, false, false, false] rfl rfl (any_of HT_.out (by kernel_rfl)) (fun _ _ _ h => h) (Or.inl ⟨by rfl, ?_⟩) ?_ ?_
                      rotate_left
                      · intro w'
                        go_simp
                        with_reducible rfl
                      rotate_left
                      · simp only [Act.put, List.setIfInBounds_toArray, List.set_cons_zero, List.set_cons_succ, i64_w, i32_w]
                        rfl
                      refine pure_ (i := 16) (N := some 83) (v := ?_) (a' := ?_) #[true, true, true, true, true, true, true, true, true, true, true, false, false, true, true, true, true, false, false, false, false] rfl rfl (any_of HT_.out (by kernel_rfl)) (fun _ _ _ h => h) (Or.inl ⟨by rfl, ?_⟩) ?_ ?_
                      rotate_left
                      · intro w'
                        go_simp
                        with_reducible rfl
                      rotate_left
                      · simp only [Act.put, List.setIfInBounds_toArray, List.set_cons_zero, List.set_cons_succ, i64_w, i32_w]
                        rfl
                      refine pure_ (i := 17) (N := some 84) (v := ?_) (a' := ?_) #[true, true, true, true, true, true, true, true, true, true, true, false, false, true, true, true, true, true, false, false, false] rfl rfl (any_of HT_.out (by kernel_rfl)) (fun _ _ _ h => h) (Or.inl ⟨by rfl, ?_⟩) ?_ ?_
                      rotate_left
                      · intro w'
                        go_simp
                        with_reducible rfl
                      rotate_left
                      · simp only [Act.put, List.setIfInBounds_toArray, List.set_cons_zero, List.set_cons_succ, i64_w, i32_w]
                        rfl
                      refine pure_ (i := 18) (N := some 85) (v := ?_) (a' := ?_) #[true, true, true, true, true, true, true, true, true, true, true, false, false, true, true, true, true, true, true, false, false] rfl rfl (any_of HT_.out (by kernel_rfl)) (fun _ _ _ h => h) (Or.inl ⟨by rfl, ?_⟩) ?_ ?_
                      rotate_left
                      · intro w'
                        go_simp
                        with_reducible rfl
                      rotate_left
                      · simp only [Act.put, List.setIfInBounds_toArray, List.set_cons_zero, List.set_cons_succ, i64_w, i32_w]
                        rfl
                      refine one_ (i := 11) (N := some 78) #[true, true, true, true, true, true, true, true, true, true, true, true, false, true, true, true, true, true, true, false, false] rfl rfl (one_of HT_.out (by kernel_rfl)) (by decide) (fun K hK => ?_)
                      refine goes_ Try.func26 (by kernel_rfl) rfl #[.string (a0.extract (a2 : Int).toNat ((ji28) : Int).toNat), .string a1] (by rfl) rfl rfl (by (try simp only [List.map_toArray, List.map_cons, List.map_nil]); first | done | (simp only [hji28]; rfl) | rfl | (simp only [List.length_drop, List.length_take]; rfl)) ?_
                      with_reducible refine (crc_Add.calls (a0.extract (a2 : Int).toNat ((ji28) : Int).toNat) a1 t207 _ A26.out).mono ?_
                      rintro e w36 ⟨rfl, hb⟩
                      refine ⟨_, rfl, ?_⟩
                      have n0_ := Aside0.mk (below_step (by repeat (first | (with_reducible first | exact HB.out | apply below_alloc | apply pw_below_drewN | apply below_drew1) | exact HB.out)) hb)
                      clear HB
                      have HB := n0_
                      clear n0_
                      (try clear hb)
                      (try clear hb2)
                      (try clear hk)
                      (try clear hi)
                      refine hK.out _ _ trivial (fun hHeld => ?_)
                      clear hK K
                      refine norm_ (a' := ?_) ?_ ?_
                      rotate_left
                      · show Act.put _ (some 78) _ = _
                        simp only [Act.put, List.setIfInBounds_toArray, List.set_cons_zero, List.set_cons_succ, i64_w, i32_w]
                        rfl
                      refine pure_ (i := 12) (N := some 79) (v := ?_) (a' := ?_) #[true, true, true, true, true, true, true, true, true, true, true, true, true, true, true, true, true, true, true, false, false] rfl rfl (any_of HT_.out (by kernel_rfl)) (fun _ _ _ h => h) (Or.inl ⟨by rfl, ?_⟩) ?_ ?_
                      rotate_left
                      · intro w'
                        go_simp
                        with_reducible rfl
                      rotate_left
                      · simp only [Act.put, List.setIfInBounds_toArray, List.set_cons_zero, List.set_cons_succ, i64_w, i32_w]
                        rfl
                      refine pure_ (i := 19) (N := some 86) (v := ?_) (a' := ?_) #[true, true, true, true, true, true, true, true, true, true, true, true, true, true, true, true, true, true, true, true, false] rfl rfl (any_of HT_.out (by kernel_rfl)) (fun _ _ _ h => h) (Or.inl ⟨by rfl, ?_⟩) ?_ ?_
                      rotate_left
                      · intro w'
                        go_simp
                        with_reducible rfl
                      rotate_left
                      · simp only [Act.put, List.setIfInBounds_toArray, List.set_cons_zero, List.set_cons_succ, i64_w, i32_w]
                        rfl
                      refine pure_ (i := 20) (N := some 11) (v := ?_) (a' := ?_) #[true, true, true, true, true, true, true, true, true, true, true, true, true, true, true, true, true, true, true, true, true] rfl rfl (any_of HT_.out (by kernel_rfl)) (fun _ _ _ h => h) (Or.inl ⟨by rfl, ?_⟩) ?_ ?_
                      rotate_left
                      · intro w'
                        go_simp
                        with_reducible rfl
                      rotate_left
                      · simp only [Act.put, List.setIfInBounds_toArray, List.set_cons_zero, List.set_cons_succ, i64_w, i32_w]
                        rfl
                      refine done_ (done_of HT_.out (by kernel_rfl)) ?_
                      go_upto_region 6 with (first | ((with_reducible refine gate_callee (f := 16) rfl ?_); refine goesL_ (some 91) rfl rfl Try.func16 (by kernel_rfl) rfl #[.string a0, .int .i64 a3, .int .i64 a4] rfl (by (try simp only [List.map_toArray, List.map_cons, List.map_nil]); first | done | rfl | (simp only [List.length_drop, List.length_take]; rfl)) ?_; (with_reducible refine (crc_Sum.calls a0 a3 a4 t208 t209 _ A32.out).mono ?_); rintro e w37 ⟨rfl, hb⟩; refine ⟨_, rfl, ?_⟩; have n0_ := Aside0.mk (below_step (by repeat (first | (with_reducible first | exact HB.out | apply below_alloc | apply pw_below_drewN | apply below_drew1) | exact HB.out)) hb); clear HB; have HB := n0_; clear n0_; (try clear hb); (try clear hb2); (try clear hk); (try clear hi)) | ((with_reducible refine gate_callee (f := 16) rfl ?_); refine goesL_ (some 98) rfl rfl Try.func16 (by kernel_rfl) rfl #[.string (((a0.extract 0 (a2 : Int).toNat) ++ t207) ++ (a0.extract ((ji28) : Int).toNat a0.size)), .int .i64 a3, .int .i64 a4] rfl (by (try simp only [List.map_toArray, List.map_cons, List.map_nil]); first | done | (simp only [hji28]; rfl) | rfl | (simp only [List.length_drop, List.length_take]; rfl)) ?_; (with_reducible refine (crc_Sum.calls (((a0.extract 0 (a2 : Int).toNat) ++ t207) ++ (a0.extract ((ji28) : Int).toNat a0.size)) a3 a4 t210 t211 _ A33.out).mono ?_); rintro e w38 ⟨rfl, hb⟩; refine ⟨_, rfl, ?_⟩; have n0_ := Aside0.mk (below_step (by repeat (first | (with_reducible first | exact HB.out | apply below_alloc | apply pw_below_drewN | apply below_drew1) | exact HB.out)) hb); clear HB; have HB := n0_; clear n0_; (try clear hb); (try clear hb2); (try clear hk); (try clear hi)))
                      (try simp only [Act.put, List.setIfInBounds_toArray, List.set_cons_zero, List.set_cons_succ])
                      go_cut [115] (fun v115 wc => ∃ (kq : Nat) (x115_33 : Bool), v115 = .bool x115_33 ∧ Aside0 (signalboxlaw07_CrcFinds.j1 kq a0 a1 (((a0.extract 0 (a2 : Int).toNat) ++ t207) ++ (a0.extract ((ji28) : Int).toNat a0.size)) x115_33 = some r) ∧ Aside0 (kq ≤ kj5) ∧ Aside0 (Below w.heap.size w wc))
                      case first =>
                        have H := HC34.out
                        clear HC34
                        by_cases c39 : t209 = true
                        · subst c39
                          have H1 : (if t211 = true then (signalboxlaw07_CrcFinds.j1 kj5 a0 a1 (((a0.extract 0 (a2 : Int).toNat) ++ t207) ++ (a0.extract ((ji28) : Int).toNat a0.size)) ((t208 == t210) != (a0.toList == (((a0.extract 0 (a2 : Int).toNat) ++ t207) ++ (a0.extract ((ji28) : Int).toNat a0.size)).toList))) else (signalboxlaw07_CrcFinds.j1 kj5 a0 a1 (((a0.extract 0 (a2 : Int).toNat) ++ t207) ++ (a0.extract ((ji28) : Int).toNat a0.size)) true)) = some r := by rw [if_pos rfl] at H; exact H
                          clear H
                          have H := H1
                          clear H1
                          by_cases c40 : t211 = true
                          · subst c40
                            have H1 : (signalboxlaw07_CrcFinds.j1 kj5 a0 a1 (((a0.extract 0 (a2 : Int).toNat) ++ t207) ++ (a0.extract ((ji28) : Int).toNat a0.size)) ((t208 == t210) != (a0.toList == (((a0.extract 0 (a2 : Int).toNat) ++ t207) ++ (a0.extract ((ji28) : Int).toNat a0.size)).toList))) = some r := by rw [if_pos rfl] at H; exact H
                            clear H
                            have H := H1
                            clear H1
                            have H' := Aside0.mk H
                            clear H
                            go_wp2
                            go_meet
                            case rel => exact ⟨_, (((t208 == t210) != (a0.toList == (((a0.extract 0 (a2 : Int).toNat) ++ t207) ++ (a0.extract ((ji28) : Int).toNat a0.size)).toList))), (by first | rfl | (simp; done) | (simp only [← hji28] <;> (first | rfl | simp)) | (simp [*]; done)), H', ⟨by have := HJ5.out; first | omega | exact Nat.le_refl _⟩, ⟨by repeat (first | (with_reducible first | exact HB.out | apply below_alloc | apply pw_below_drewN | apply below_drew1) | exact HB.out)⟩⟩
                          · replace c40 := Bool.eq_false_iff.mpr c40
                            subst c40
                            have H1 : (signalboxlaw07_CrcFinds.j1 kj5 a0 a1 (((a0.extract 0 (a2 : Int).toNat) ++ t207) ++ (a0.extract ((ji28) : Int).toNat a0.size)) true) = some r := by rw [if_neg (show ¬ (false = true) by decide)] at H; exact H
                            clear H
                            have H := H1
                            clear H1
                            have H' := Aside0.mk H
                            clear H
                            go_wp2
                            go_meet
                            case rel => exact ⟨_, (true), (by first | rfl | (simp; done) | (simp [*]; done)), H', ⟨by have := HJ5.out; first | omega | exact Nat.le_refl _⟩, ⟨by repeat (first | (with_reducible first | exact HB.out | apply below_alloc | apply pw_below_drewN | apply below_drew1) | exact HB.out)⟩⟩
                        · replace c39 := Bool.eq_false_iff.mpr c39
                          subst c39
                          have H1 : (signalboxlaw07_CrcFinds.j1 kj5 a0 a1 (((a0.extract 0 (a2 : Int).toNat) ++ t207) ++ (a0.extract ((ji28) : Int).toNat a0.size)) true) = some r := by rw [if_neg (show ¬ (false = true) by decide)] at H; exact H
                          clear H
                          have H := H1
                          clear H1
                          have H' := Aside0.mk H
                          clear H
                          go_wp2
                          go_meet
                          case rel => exact ⟨_, (true), (by first | rfl | (simp; done) | (simp [*]; done)), H', ⟨by have := HJ5.out; first | omega | exact Nat.le_refl _⟩, ⟨by repeat (first | (with_reducible first | exact HB.out | apply below_alloc | apply pw_below_drewN | apply below_drew1) | exact HB.out)⟩⟩
                      case rest =>
                        clear HC34
                        try clear c1
                        try clear c2
                        try clear p2
                        try clear c3
                        try clear c4
                        try clear p6
                        try clear c7
                        try clear c7b0
                        try clear c7b1
                        try clear c9
                        try clear c10
                        try clear c11
                        try clear c12
                        try clear c12b0
                        try clear c13
                        try clear c13b0
                        try clear c13b1
                        try clear c14
                        try clear c14b0
                        try clear c15
                        try clear c16
                        try clear c17
                        try clear c17b0
                        try clear c17b1
                        try clear c18
                        try clear c21
                        try clear c21b0
                        try clear c21b1
                        try clear c22
                        try clear c22b0
                        try clear c22b1
                        try clear c23
                        try clear c23b0
                        try clear c24
                        try clear c24b0
                        try clear c24b1
                        try clear c25
                        try clear c25b0
                        try clear c25b1
                        try clear c26
                        try clear c27
                        try clear c27b0
                        try clear c27b1
                        try clear c27b2
                        try clear c29
                        try clear c29b0
                        try clear c29b1
                        try clear c30
                        try clear c30b0
                        try clear c31
                        try clear c31b0
                        try clear c31b1
                        try clear c31b2
                        try clear c39
                        try clear c40
                        try clear p2
                        try clear p6
                        obtain ⟨kq, x115_33, rfl, HA, HJ33, HB⟩ := hcut
                        cases kq with
                        | zero => exact absurd HA.out (by simp [signalboxlaw07_CrcFinds.j1])
                        | succ kj33 =>
                          have H := HA.out
                          clear HA
                          simp only [signalboxlaw07_CrcFinds.j1] at H
                          by_cases c41 : x115_33 = true
                          · subst c41
                            have H1 : (some false) = some r := by rw [if_pos rfl] at H; exact H
                            clear H
                            have H := H1
                            clear H1
                            obtain rfl := Option.some.inj H
                            go_wp2
                            go_ret
                            exact ⟨by first | rfl | (simp [errW_none, errW_some] <;> rfl) | (simp only [← hji28]; first | rfl | (simp [errW_none, errW_some] <;> rfl)) | (simp [*, errW_none, errW_some] <;> rfl), by repeat (first | (with_reducible first | exact HB.out | apply below_alloc | apply pw_below_drewN | apply below_drew1) | exact HB.out)⟩
                          · replace c41 := Bool.eq_false_iff.mpr c41
                            subst c41
                            have H1 : (if (a1.size : Int) > 15 then ((signalboxlaw07_alive.f).bind fun t212 => (some t212)) else ((crc_Crc.f a0).bind fun t213 => ((crc_Crc.f (((a0.extract 0 (a2 : Int).toNat) ++ t207) ++ (a0.extract ((ji28) : Int).toNat a0.size))).bind fun t214 => (if ((t213 == t214) == (a0.toList == (((a0.extract 0 (a2 : Int).toNat) ++ t207) ++ (a0.extract ((ji28) : Int).toNat a0.size)).toList)) = true then ((signalboxlaw07_alive.f).bind fun t215 => (some t215)) else (some false))))) = some r := by rw [if_neg (show ¬ (false = true) by decide)] at H; exact H
                            clear H
                            have H := H1
                            clear H1
                            by_cases c42 : (a1.size : Int) > 15
                            · rw [if_pos c42] at H
                              have c42b0 : decide (15 < (a1.size : Int)) = true := decide_eq_true c42
                              have c42b1 : decide (15 < a1.size) = true := decide_eq_true (by omega)
                              clear c42
                              replace H := Option.bind_eq_some_iff.mp H
                              obtain ⟨t212, A430, H⟩ := H
                              replace H : (some t212) = some r := H
                              have A43 := Aside0.mk A430
                              clear A430
                              obtain rfl := Option.some.inj H
                              go_wp2_with (first | (go_at_call 15; (with_reducible refine (signalboxlaw07_alive.calls  t212 _ A43.out).mono ?_); rintro e w44 ⟨rfl, hb⟩; have n0_ := Aside0.mk (below_step (by repeat (first | (with_reducible first | exact HB.out | apply below_alloc | apply pw_below_drewN | apply below_drew1) | exact HB.out)) hb); clear HB; have HB := n0_; clear n0_; (try clear hb); (try clear hb2); (try clear hk); (try clear hi)))
                              go_ret
                              exact ⟨by first | rfl | (simp [errW_none, errW_some] <;> rfl) | (simp only [← hji28]; first | rfl | (simp [errW_none, errW_some] <;> rfl)) | (simp [*, errW_none, errW_some] <;> rfl), by repeat (first | (with_reducible first | exact HB.out | apply below_alloc | apply pw_below_drewN | apply below_drew1) | exact HB.out)⟩
                            · rw [if_neg c42] at H
                              have c42b0 : decide (15 < (a1.size : Int)) = false := decide_eq_false c42
                              have c42b1 : decide (15 < a1.size) = false := decide_eq_false (by omega)
                              clear c42
                              replace H := Option.bind_eq_some_iff.mp H
                              obtain ⟨t213, A450, H⟩ := H
                              replace H : ((crc_Crc.f (((a0.extract 0 (a2 : Int).toNat) ++ t207) ++ (a0.extract ((ji28) : Int).toNat a0.size))).bind fun t214 => (if ((t213 == t214) == (a0.toList == (((a0.extract 0 (a2 : Int).toNat) ++ t207) ++ (a0.extract ((ji28) : Int).toNat a0.size)).toList)) = true then ((signalboxlaw07_alive.f).bind fun t215 => (some t215)) else (some false))) = some r := H
                              have A45 := Aside0.mk A450
                              clear A450
                              replace H := Option.bind_eq_some_iff.mp H
                              obtain ⟨t214, A460, H⟩ := H
                              replace H : (if ((t213 == t214) == (a0.toList == (((a0.extract 0 (a2 : Int).toNat) ++ t207) ++ (a0.extract ((ji28) : Int).toNat a0.size)).toList)) = true then ((signalboxlaw07_alive.f).bind fun t215 => (some t215)) else (some false)) = some r := H
                              have A46 := Aside0.mk A460
                              clear A460
                              by_cases c47 : ((t213 == t214) == (a0.toList == (((a0.extract 0 (a2 : Int).toNat) ++ t207) ++ (a0.extract ((ji28) : Int).toNat a0.size)).toList)) = true
                              · rw [if_pos c47] at H
                                have c47b0 : ((t213 == t214) == (a0.toList == (((a0.extract 0 (a2 : Int).toNat) ++ t207) ++ (a0.extract ((ji28) : Int).toNat a0.size)).toList)) = true := c47
                                (try (have c47b1 : decide ((t213 == t214) = (a0.toList == (((a0.extract 0 (a2 : Int).toNat) ++ t207) ++ (a0.extract ((ji28) : Int).toNat a0.size)).toList)) = true := by simpa using c47))
                                (try (have c47b2 : ((t213 == t214) == (a0.toList == (((a0.extract 0 (a2 : Int).toNat) ++ t207) ++ (a0.extract ((ji28) : Int).toNat a0.size)).toList)) = true := by simpa using c47))
                                clear c47
                                replace H := Option.bind_eq_some_iff.mp H
                                obtain ⟨t215, A480, H⟩ := H
                                replace H : (some t215) = some r := H
                                have A48 := Aside0.mk A480
                                clear A480
                                obtain rfl := Option.some.inj H
                                go_wp2_with (first | (go_at_call 18; (with_reducible refine (crc_Crc.calls a0 t213 _ A45.out).mono ?_); rintro e w49 ⟨rfl, hb⟩; have n0_ := Aside0.mk (below_step (by repeat (first | (with_reducible first | exact HB.out | apply below_alloc | apply pw_below_drewN | apply below_drew1) | exact HB.out)) hb); clear HB; have HB := n0_; clear n0_; (try clear hb); (try clear hb2); (try clear hk); (try clear hi)) | (go_at_call 18; (with_reducible refine (crc_Crc.calls (((a0.extract 0 (a2 : Int).toNat) ++ t207) ++ (a0.extract ((ji28) : Int).toNat a0.size)) t214 _ A46.out).mono ?_); rintro e w50 ⟨rfl, hb⟩; have n0_ := Aside0.mk (below_step (by repeat (first | (with_reducible first | exact HB.out | apply below_alloc | apply pw_below_drewN | apply below_drew1) | exact HB.out)) hb); clear HB; have HB := n0_; clear n0_; (try clear hb); (try clear hb2); (try clear hk); (try clear hi)) | (go_at_call 15; (with_reducible refine (signalboxlaw07_alive.calls  t215 _ A48.out).mono ?_); rintro e w51 ⟨rfl, hb⟩; have n0_ := Aside0.mk (below_step (by repeat (first | (with_reducible first | exact HB.out | apply below_alloc | apply pw_below_drewN | apply below_drew1) | exact HB.out)) hb); clear HB; have HB := n0_; clear n0_; (try clear hb); (try clear hb2); (try clear hk); (try clear hi)))
                                go_ret
                                exact ⟨by first | rfl | (simp [errW_none, errW_some] <;> rfl) | (simp only [← hji28]; first | rfl | (simp [errW_none, errW_some] <;> rfl)) | (simp [*, errW_none, errW_some] <;> rfl), by repeat (first | (with_reducible first | exact HB.out | apply below_alloc | apply pw_below_drewN | apply below_drew1) | exact HB.out)⟩
                              · rw [if_neg c47] at H
                                have c47b0 : ((t213 == t214) == (a0.toList == (((a0.extract 0 (a2 : Int).toNat) ++ t207) ++ (a0.extract ((ji28) : Int).toNat a0.size)).toList)) = false := by simpa using c47
                                (try (have c47b1 : decide ((t213 == t214) = (a0.toList == (((a0.extract 0 (a2 : Int).toNat) ++ t207) ++ (a0.extract ((ji28) : Int).toNat a0.size)).toList)) = false := by simpa using c47))
                                (try (have c47b2 : ((t213 == t214) == (a0.toList == (((a0.extract 0 (a2 : Int).toNat) ++ t207) ++ (a0.extract ((ji28) : Int).toNat a0.size)).toList)) = false := by simpa using c47))
                                (try (have c47b3 : ¬ ((t213 == t214) = (a0.toList == (((a0.extract 0 (a2 : Int).toNat) ++ t207) ++ (a0.extract ((ji28) : Int).toNat a0.size)).toList)) := by simpa using c47))
                                clear c47
                                obtain rfl := Option.some.inj H
                                go_wp2_with (first | (go_at_call 18; (with_reducible refine (crc_Crc.calls a0 t213 _ A45.out).mono ?_); rintro e w52 ⟨rfl, hb⟩; have n0_ := Aside0.mk (below_step (by repeat (first | (with_reducible first | exact HB.out | apply below_alloc | apply pw_below_drewN | apply below_drew1) | exact HB.out)) hb); clear HB; have HB := n0_; clear n0_; (try clear hb); (try clear hb2); (try clear hk); (try clear hi)) | (go_at_call 18; (with_reducible refine (crc_Crc.calls (((a0.extract 0 (a2 : Int).toNat) ++ t207) ++ (a0.extract ((ji28) : Int).toNat a0.size)) t214 _ A46.out).mono ?_); rintro e w53 ⟨rfl, hb⟩; have n0_ := Aside0.mk (below_step (by repeat (first | (with_reducible first | exact HB.out | apply below_alloc | apply pw_below_drewN | apply below_drew1) | exact HB.out)) hb); clear HB; have HB := n0_; clear n0_; (try clear hb); (try clear hb2); (try clear hk); (try clear hi)))
                                go_ret
                                exact ⟨by first | rfl | (simp [errW_none, errW_some] <;> rfl) | (simp only [← hji28]; first | rfl | (simp [errW_none, errW_some] <;> rfl)) | (simp [*, errW_none, errW_some] <;> rfl), by repeat (first | (with_reducible first | exact HB.out | apply below_alloc | apply pw_below_drewN | apply below_drew1) | exact HB.out)⟩
                    · rw [if_neg c31] at H
                      exact absurd H (by simp)
                  · rw [if_neg c29] at H
                    exact absurd H (by simp)
                · rw [if_neg c27] at H
                  exact absurd H (by simp)
              · rw [if_neg c25] at H
                exact absurd H (by simp)
            · rw [if_neg c24] at H
              exact absurd H (by simp)
          · rw [if_neg c22] at H
            exact absurd H (by simp)
        · rw [if_neg c21] at H
          exact absurd H (by simp)

/-- THE ONE PURE STATEMENT of signalboxlaw07_CrcFinds: yours. -/
def signalboxlaw07_CrcFinds.Pure : Prop := ∀ (a0 : ByteArray) (a1 : ByteArray) (a2 : Int) (a3 : Int) (a4 : Int), a0.size ≤ 140737488351232 → a1.size ≤ 140737488351232 → (Lit.int .i64 a2).wf = true → (Lit.int .i64 a3).wf = true → (Lit.int .i64 a4).wf = true → ∃ k, signalboxlaw07_CrcFinds.f k a0 a1 a2 a3 a4 = some true
theorem signalboxlaw07_CrcFinds.walk (P : signalboxlaw07_CrcFinds.Pure) (a0 : ByteArray) (a1 : ByteArray) (a2 : Int) (a3 : Int) (a4 : Int) (w : World) (w0 : a0.size ≤ 140737488351232) (w1 : a1.size ≤ 140737488351232) (w2 : (Lit.int .i64 a2).wf = true) (w3 : (Lit.int .i64 a3).wf = true) (w4 : (Lit.int .i64 a4).wf = true) :
    Calls Try.prog 10 #[.string a0, .string a1, .int .i64 a2, .int .i64 a3, .int .i64 a4] w fun e w' => e = .returned (.bool true) ∧ Below w.heap.size w w' := by
  obtain ⟨k, h⟩ := P a0 a1 a2 a3 a4 w0 w1 w2 w3 w4
  refine (signalboxlaw07_CrcFinds.calls k a0 a1 a2 a3 a4 true w h).mono ?_
  rintro e w' ⟨rfl, hd⟩
  exact ⟨rfl, hd⟩

end Go.Proofs.Ytbpjbnhhopohgaa.P
