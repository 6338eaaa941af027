/- Printed for this claim by a program of the session (wip/gp.py, which drives the kit's printer): a Go function as a plain Lean function, and that its call answers it, wherever that function answers; no other conditions. -/
import Derived.Test.YthgnhhdblbiihaaP0
import Derived.Test.YthgnhhdblbiihaaPguardSeal
import Derived.Test.YthgnhhdblbiihaaPguardNew
import Derived.Test.YthgnhhdblbiihaaPsignalboxlaw40alive
import Derived.Test.YthgnhhdblbiihaaGTakeAll
namespace Go.Proofs.Ythgnhhdblbiihaa.P
open Go.RowKit Go.Proofs.YthgnhhdblbiihaaW.PrintWords Go.Proofs.YthgnhhdblbiihaaW.PrintLast Go.Proofs.YthgnhhdblbiihaaW.PrintMore
attribute [local go_sem] max2_int min2_int max_two min_two max_three min_three max_four min_four   -- for this text's walks alone
set_option linter.unusedVariables false
set_option linter.unusedSimpArgs false

/-! ### signalboxlaw40_GuardRow: function 6 -/
mutual
def signalboxlaw40_GuardRow.j0 : Nat → Int → Int → List Int → Bool → Option (Bool)
  | 0, _, _, _, _ => none
  | k + 1, x0, x1, x2, x32 => if x32 = true then ((signalboxlaw40_alive.f k).bind fun t200 => (some t200)) else ((guard_New.f x0 x1).bind fun bt201 => (signalboxlaw40_GuardRow.l0 k x0 x1 0 x2 (x2.length : Int) 0 bt201.1 bt201.2.1 bt201.2.2.1 bt201.2.2.2.1 bt201.2.2.2.2.1 bt201.2.2.2.2.2.1 bt201.2.2.2.2.2.2.1 bt201.2.2.2.2.2.2.2.1 bt201.2.2.2.2.2.2.2.2))
def signalboxlaw40_GuardRow.l0 : Nat → Int → Int → Int → List Int → Int → Int → Int → Int → Int → Bool → Int → Int → Int → Int → Int → Option (Bool)
  | 0, _, _, _, _, _, _, _, _, _, _, _, _, _, _, _ => none
  | k + 1, x0, x1, x8, x37, x38, x39, x211000, x211001, x211002, x211003, x211004, x211005, x211006, x211007, x211008 => if x39 < x38 then (if 0 ≤ x39 then (if x39 < (x37.length : Int) then (if (rd x37 x39) < 0 then (signalboxlaw40_GuardRow.j2 k x0 x1 x8 x39 (rd x37 x39) x37 x38 x39 true x211000 x211001 x211002 x211003 x211004 x211005 x211006 x211007 x211008) else (signalboxlaw40_GuardRow.j2 k x0 x1 x8 x39 (rd x37 x39) x37 x38 x39 (decide ((rd x37 x39) > 13)) x211000 x211001 x211002 x211003 x211004 x211005 x211006 x211007 x211008)) else (none)) else (none)) else ((signalboxlaw40_alive.f k).bind fun t211 => (some t211))
def signalboxlaw40_GuardRow.j2 : Nat → Int → Int → Int → Int → Int → List Int → Int → Int → Bool → Int → Int → Int → Bool → Int → Int → Int → Int → Int → Option (Bool)
  | 0, _, _, _, _, _, _, _, _, _, _, _, _, _, _, _, _, _, _ => none
  | k + 1, x0, x1, x8, x9, x10, x37, x38, x39, x49, x211000, x211001, x211002, x211003, x211004, x211005, x211006, x211007, x211008 => if x49 = true then ((signalboxlaw40_alive.f k).bind fun t213 => (some t213)) else ((guard_Seal.f k x0 (Int.tmod (wrap64 (x8 + x10)) 15) (⟨#[120]⟩ : ByteArray)).bind fun bt214 => (if x9 > 0 then (signalboxlaw40_GuardRow.j3 k x0 x1 (wrap64 ((wrap64 (x8 + x10)) + 1)) x9 x10 bt214.1 bt214.2 1 x37 x38 x39 (decide (x10 > x1)) x211000 x211001 x211002 x211003 x211004 x211005 x211006 x211007 x211008) else (signalboxlaw40_GuardRow.j3 k x0 x1 (wrap64 ((wrap64 (x8 + x10)) + 1)) x9 x10 bt214.1 bt214.2 1 x37 x38 x39 false x211000 x211001 x211002 x211003 x211004 x211005 x211006 x211007 x211008)))
def signalboxlaw40_GuardRow.j3 : Nat → Int → Int → Int → Int → Int → ByteArray → Int → Int → List Int → Int → Int → Bool → Int → Int → Int → Bool → Int → Int → Int → Int → Int → Option (Bool)
  | 0, _, _, _, _, _, _, _, _, _, _, _, _, _, _, _, _, _, _, _, _, _ => none
  | k + 1, x0, x1, x8, x9, x10, x11, x12, x13, x37, x38, x39, x69, x211000, x211001, x211002, x211003, x211004, x211005, x211006, x211007, x211008 => if x69 = true then (if x12 = 0 then ((guard_Guard_Take.f x211000 x211001 x211002 x211003 x211004 x211005 x211006 x211007 x211008 x11).bind fun bt216 => (if bt216.1 = 4 then (signalboxlaw40_GuardRow.l0 k x0 x1 x8 x37 x38 (wrap64 (x39 + 1)) bt216.2.1 bt216.2.2.1 bt216.2.2.2.1 bt216.2.2.2.2.1 bt216.2.2.2.2.2.1 bt216.2.2.2.2.2.2.1 bt216.2.2.2.2.2.2.2.1 bt216.2.2.2.2.2.2.2.2.1 bt216.2.2.2.2.2.2.2.2.2) else (some false))) else (some false)) else (if x9 > 0 then (signalboxlaw40_GuardRow.j4 k x0 x1 x8 x11 x12 x13 x37 x38 x39 (decide (x10 > 0)) x211000 x211001 x211002 x211003 x211004 x211005 x211006 x211007 x211008) else (signalboxlaw40_GuardRow.j4 k x0 x1 x8 x11 x12 x13 x37 x38 x39 false x211000 x211001 x211002 x211003 x211004 x211005 x211006 x211007 x211008))
def signalboxlaw40_GuardRow.j4 : Nat → Int → Int → Int → ByteArray → Int → Int → List Int → Int → Int → Bool → Int → Int → Int → Bool → Int → Int → Int → Int → Int → Option (Bool)
  | 0, _, _, _, _, _, _, _, _, _, _, _, _, _, _, _, _, _, _, _ => none
  | k + 1, x0, x1, x8, x11, x12, x13, x37, x38, x39, x75, x211000, x211001, x211002, x211003, x211004, x211005, x211006, x211007, x211008 => if x75 = true then (if x12 = 0 then ((guard_Guard_Take.f x211000 x211001 x211002 x211003 x211004 x211005 x211006 x211007 x211008 x11).bind fun bt226 => (if bt226.1 = 3 then (signalboxlaw40_GuardRow.l0 k x0 x1 x8 x37 x38 (wrap64 (x39 + 1)) bt226.2.1 bt226.2.2.1 bt226.2.2.2.1 bt226.2.2.2.2.1 bt226.2.2.2.2.2.1 bt226.2.2.2.2.2.2.1 bt226.2.2.2.2.2.2.2.1 bt226.2.2.2.2.2.2.2.2.1 bt226.2.2.2.2.2.2.2.2.2) else (some false))) else (some false)) else (if x12 = 0 then ((guard_Guard_Take.f x211000 x211001 x211002 x211003 x211004 x211005 x211006 x211007 x211008 x11).bind fun bt236 => (if bt236.1 = x13 then (signalboxlaw40_GuardRow.l0 k x0 x1 x8 x37 x38 (wrap64 (x39 + 1)) bt236.2.1 bt236.2.2.1 bt236.2.2.2.1 bt236.2.2.2.2.1 bt236.2.2.2.2.2.1 bt236.2.2.2.2.2.2.1 bt236.2.2.2.2.2.2.2.1 bt236.2.2.2.2.2.2.2.2.1 bt236.2.2.2.2.2.2.2.2.2) else (some false))) else (some false))
end
def signalboxlaw40_GuardRow.f (k : Nat) (a0 : Int) (a1 : Int) (l2 : List Int) : Option (Bool) := if a0 < 0 then (signalboxlaw40_GuardRow.j0 k a0 a1 l2 true) else (if a0 > 255 then (signalboxlaw40_GuardRow.j0 k a0 a1 l2 true) else (if a1 < 0 then (signalboxlaw40_GuardRow.j0 k a0 a1 l2 true) else (if a1 > 13 then (signalboxlaw40_GuardRow.j0 k a0 a1 l2 true) else (signalboxlaw40_GuardRow.j0 k a0 a1 l2 (decide ((l2.length : Int) > 60))))))
theorem signalboxlaw40_GuardRow.mono_l : ∀ k, (∀ y0 y1 y2 y3, LeO (signalboxlaw40_GuardRow.j0 k y0 y1 y2 y3) (signalboxlaw40_GuardRow.j0 (k + 1) y0 y1 y2 y3)) ∧ (∀ y0 y1 y2 y3 y4 y5 y6 y7 y8 y9 y10 y11 y12 y13 y14, LeO (signalboxlaw40_GuardRow.l0 k y0 y1 y2 y3 y4 y5 y6 y7 y8 y9 y10 y11 y12 y13 y14) (signalboxlaw40_GuardRow.l0 (k + 1) y0 y1 y2 y3 y4 y5 y6 y7 y8 y9 y10 y11 y12 y13 y14)) ∧ (∀ y0 y1 y2 y3 y4 y5 y6 y7 y8 y9 y10 y11 y12 y13 y14 y15 y16 y17, LeO (signalboxlaw40_GuardRow.j2 k y0 y1 y2 y3 y4 y5 y6 y7 y8 y9 y10 y11 y12 y13 y14 y15 y16 y17) (signalboxlaw40_GuardRow.j2 (k + 1) y0 y1 y2 y3 y4 y5 y6 y7 y8 y9 y10 y11 y12 y13 y14 y15 y16 y17)) ∧ (∀ y0 y1 y2 y3 y4 y5 y6 y7 y8 y9 y10 y11 y12 y13 y14 y15 y16 y17 y18 y19 y20, LeO (signalboxlaw40_GuardRow.j3 k y0 y1 y2 y3 y4 y5 y6 y7 y8 y9 y10 y11 y12 y13 y14 y15 y16 y17 y18 y19 y20) (signalboxlaw40_GuardRow.j3 (k + 1) y0 y1 y2 y3 y4 y5 y6 y7 y8 y9 y10 y11 y12 y13 y14 y15 y16 y17 y18 y19 y20)) ∧ (∀ y0 y1 y2 y3 y4 y5 y6 y7 y8 y9 y10 y11 y12 y13 y14 y15 y16 y17 y18, LeO (signalboxlaw40_GuardRow.j4 k y0 y1 y2 y3 y4 y5 y6 y7 y8 y9 y10 y11 y12 y13 y14 y15 y16 y17 y18) (signalboxlaw40_GuardRow.j4 (k + 1) y0 y1 y2 y3 y4 y5 y6 y7 y8 y9 y10 y11 y12 y13 y14 y15 y16 y17 y18))
  | 0 => ⟨fun _ _ _ _ r h => by simp [signalboxlaw40_GuardRow.j0] at h, fun _ _ _ _ _ _ _ _ _ _ _ _ _ _ _ r h => by simp [signalboxlaw40_GuardRow.l0] at h, fun _ _ _ _ _ _ _ _ _ _ _ _ _ _ _ _ _ _ r h => by simp [signalboxlaw40_GuardRow.j2] at h, fun _ _ _ _ _ _ _ _ _ _ _ _ _ _ _ _ _ _ _ _ _ r h => by simp [signalboxlaw40_GuardRow.j3] at h, fun _ _ _ _ _ _ _ _ _ _ _ _ _ _ _ _ _ _ _ r h => by simp [signalboxlaw40_GuardRow.j4] at h⟩
  | k + 1 => by
    obtain ⟨ih0, ih1, ih2, ih3, ih4⟩ := signalboxlaw40_GuardRow.mono_l k
    refine ⟨?_, ?_, ?_, ?_, ?_⟩
    · intro y0 y1 y2 y3
      unfold signalboxlaw40_GuardRow.j0
      repeat' first
      | (with_reducible exact ih0 _ _ _ _)
      | (with_reducible exact ih1 _ _ _ _ _ _ _ _ _ _ _ _ _ _ _)
      | (with_reducible exact ih2 _ _ _ _ _ _ _ _ _ _ _ _ _ _ _ _ _ _)
      | (with_reducible exact ih3 _ _ _ _ _ _ _ _ _ _ _ _ _ _ _ _ _ _ _ _ _)
      | (with_reducible exact ih4 _ _ _ _ _ _ _ _ _ _ _ _ _ _ _ _ _ _ _)
      | (with_reducible exact guard_Seal.mono _ _ _ _)
      | (with_reducible exact signalboxlaw40_alive.mono _)
      | (with_reducible exact LeO.refl _)
      | (with_reducible exact LeO.none _)
      | (with_reducible refine LeO.ite ?_ ?_)
      | (with_reducible refine LeO.bind ?_ (fun _ => ?_))
      | exact ih0 _ _ _ _
      | exact ih1 _ _ _ _ _ _ _ _ _ _ _ _ _ _ _
      | exact ih2 _ _ _ _ _ _ _ _ _ _ _ _ _ _ _ _ _ _
      | exact ih3 _ _ _ _ _ _ _ _ _ _ _ _ _ _ _ _ _ _ _ _ _
      | exact ih4 _ _ _ _ _ _ _ _ _ _ _ _ _ _ _ _ _ _ _
      | exact guard_Seal.mono _ _ _ _
      | exact signalboxlaw40_alive.mono _
      | exact LeO.none _
      | refine LeO.ite ?_ ?_
      | refine LeO.bind ?_ (fun _ => ?_)
    · intro y0 y1 y2 y3 y4 y5 y6 y7 y8 y9 y10 y11 y12 y13 y14
      unfold signalboxlaw40_GuardRow.l0
      repeat' first
      | (with_reducible exact ih0 _ _ _ _)
      | (with_reducible exact ih1 _ _ _ _ _ _ _ _ _ _ _ _ _ _ _)
      | (with_reducible exact ih2 _ _ _ _ _ _ _ _ _ _ _ _ _ _ _ _ _ _)
      | (with_reducible exact ih3 _ _ _ _ _ _ _ _ _ _ _ _ _ _ _ _ _ _ _ _ _)
      | (with_reducible exact ih4 _ _ _ _ _ _ _ _ _ _ _ _ _ _ _ _ _ _ _)
      | (with_reducible exact guard_Seal.mono _ _ _ _)
      | (with_reducible exact signalboxlaw40_alive.mono _)
      | (with_reducible exact LeO.refl _)
      | (with_reducible exact LeO.none _)
      | (with_reducible refine LeO.ite ?_ ?_)
      | (with_reducible refine LeO.bind ?_ (fun _ => ?_))
      | exact ih0 _ _ _ _
      | exact ih1 _ _ _ _ _ _ _ _ _ _ _ _ _ _ _
      | exact ih2 _ _ _ _ _ _ _ _ _ _ _ _ _ _ _ _ _ _
      | exact ih3 _ _ _ _ _ _ _ _ _ _ _ _ _ _ _ _ _ _ _ _ _
      | exact ih4 _ _ _ _ _ _ _ _ _ _ _ _ _ _ _ _ _ _ _
      | exact guard_Seal.mono _ _ _ _
      | exact signalboxlaw40_alive.mono _
      | exact LeO.none _
      | refine LeO.ite ?_ ?_
      | refine LeO.bind ?_ (fun _ => ?_)
    · intro y0 y1 y2 y3 y4 y5 y6 y7 y8 y9 y10 y11 y12 y13 y14 y15 y16 y17
      unfold signalboxlaw40_GuardRow.j2
      repeat' first
      | (with_reducible exact ih0 _ _ _ _)
      | (with_reducible exact ih1 _ _ _ _ _ _ _ _ _ _ _ _ _ _ _)
      | (with_reducible exact ih2 _ _ _ _ _ _ _ _ _ _ _ _ _ _ _ _ _ _)
      | (with_reducible exact ih3 _ _ _ _ _ _ _ _ _ _ _ _ _ _ _ _ _ _ _ _ _)
      | (with_reducible exact ih4 _ _ _ _ _ _ _ _ _ _ _ _ _ _ _ _ _ _ _)
      | (with_reducible exact guard_Seal.mono _ _ _ _)
      | (with_reducible exact signalboxlaw40_alive.mono _)
      | (with_reducible exact LeO.refl _)
      | (with_reducible exact LeO.none _)
      | (with_reducible refine LeO.ite ?_ ?_)
      | (with_reducible refine LeO.bind ?_ (fun _ => ?_))
      | exact ih0 _ _ _ _
      | exact ih1 _ _ _ _ _ _ _ _ _ _ _ _ _ _ _
      | exact ih2 _ _ _ _ _ _ _ _ _ _ _ _ _ _ _ _ _ _
      | exact ih3 _ _ _ _ _ _ _ _ _ _ _ _ _ _ _ _ _ _ _ _ _
      | exact ih4 _ _ _ _ _ _ _ _ _ _ _ _ _ _ _ _ _ _ _
      | exact guard_Seal.mono _ _ _ _
      | exact signalboxlaw40_alive.mono _
      | exact LeO.none _
      | refine LeO.ite ?_ ?_
      | refine LeO.bind ?_ (fun _ => ?_)
    · intro y0 y1 y2 y3 y4 y5 y6 y7 y8 y9 y10 y11 y12 y13 y14 y15 y16 y17 y18 y19 y20
      unfold signalboxlaw40_GuardRow.j3
      repeat' first
      | (with_reducible exact ih0 _ _ _ _)
      | (with_reducible exact ih1 _ _ _ _ _ _ _ _ _ _ _ _ _ _ _)
      | (with_reducible exact ih2 _ _ _ _ _ _ _ _ _ _ _ _ _ _ _ _ _ _)
      | (with_reducible exact ih3 _ _ _ _ _ _ _ _ _ _ _ _ _ _ _ _ _ _ _ _ _)
      | (with_reducible exact ih4 _ _ _ _ _ _ _ _ _ _ _ _ _ _ _ _ _ _ _)
      | (with_reducible exact guard_Seal.mono _ _ _ _)
      | (with_reducible exact signalboxlaw40_alive.mono _)
      | (with_reducible exact LeO.refl _)
      | (with_reducible exact LeO.none _)
      | (with_reducible refine LeO.ite ?_ ?_)
      | (with_reducible refine LeO.bind ?_ (fun _ => ?_))
      | exact ih0 _ _ _ _
      | exact ih1 _ _ _ _ _ _ _ _ _ _ _ _ _ _ _
      | exact ih2 _ _ _ _ _ _ _ _ _ _ _ _ _ _ _ _ _ _
      | exact ih3 _ _ _ _ _ _ _ _ _ _ _ _ _ _ _ _ _ _ _ _ _
      | exact ih4 _ _ _ _ _ _ _ _ _ _ _ _ _ _ _ _ _ _ _
      | exact guard_Seal.mono _ _ _ _
      | exact signalboxlaw40_alive.mono _
      | exact LeO.none _
      | refine LeO.ite ?_ ?_
      | refine LeO.bind ?_ (fun _ => ?_)
    · intro y0 y1 y2 y3 y4 y5 y6 y7 y8 y9 y10 y11 y12 y13 y14 y15 y16 y17 y18
      unfold signalboxlaw40_GuardRow.j4
      repeat' first
      | (with_reducible exact ih0 _ _ _ _)
      | (with_reducible exact ih1 _ _ _ _ _ _ _ _ _ _ _ _ _ _ _)
      | (with_reducible exact ih2 _ _ _ _ _ _ _ _ _ _ _ _ _ _ _ _ _ _)
      | (with_reducible exact ih3 _ _ _ _ _ _ _ _ _ _ _ _ _ _ _ _ _ _ _ _ _)
      | (with_reducible exact ih4 _ _ _ _ _ _ _ _ _ _ _ _ _ _ _ _ _ _ _)
      | (with_reducible exact guard_Seal.mono _ _ _ _)
      | (with_reducible exact signalboxlaw40_alive.mono _)
      | (with_reducible exact LeO.refl _)
      | (with_reducible exact LeO.none _)
      | (with_reducible refine LeO.ite ?_ ?_)
      | (with_reducible refine LeO.bind ?_ (fun _ => ?_))
      | exact ih0 _ _ _ _
      | exact ih1 _ _ _ _ _ _ _ _ _ _ _ _ _ _ _
      | exact ih2 _ _ _ _ _ _ _ _ _ _ _ _ _ _ _ _ _ _
      | exact ih3 _ _ _ _ _ _ _ _ _ _ _ _ _ _ _ _ _ _ _ _ _
      | exact ih4 _ _ _ _ _ _ _ _ _ _ _ _ _ _ _ _ _ _ _
      | exact guard_Seal.mono _ _ _ _
      | exact signalboxlaw40_alive.mono _
      | exact LeO.none _
      | refine LeO.ite ?_ ?_
      | refine LeO.bind ?_ (fun _ => ?_)
theorem signalboxlaw40_GuardRow.mono : ∀ a0 a1 a2 k, LeO (signalboxlaw40_GuardRow.f k a0 a1 a2) (signalboxlaw40_GuardRow.f (k + 1) a0 a1 a2) := by
  intro a0 a1 a2 k
  obtain ⟨ih0, ih1, ih2, ih3, ih4⟩ := signalboxlaw40_GuardRow.mono_l k
  unfold signalboxlaw40_GuardRow.f
  repeat' first
      | (with_reducible exact ih0 _ _ _ _)
      | (with_reducible exact ih1 _ _ _ _ _ _ _ _ _ _ _ _ _ _ _)
      | (with_reducible exact ih2 _ _ _ _ _ _ _ _ _ _ _ _ _ _ _ _ _ _)
      | (with_reducible exact ih3 _ _ _ _ _ _ _ _ _ _ _ _ _ _ _ _ _ _ _ _ _)
      | (with_reducible exact ih4 _ _ _ _ _ _ _ _ _ _ _ _ _ _ _ _ _ _ _)
      | (with_reducible exact guard_Seal.mono _ _ _ _)
      | (with_reducible exact signalboxlaw40_alive.mono _)
      | (with_reducible exact LeO.refl _)
      | (with_reducible exact LeO.none _)
      | (with_reducible refine LeO.ite ?_ ?_)
      | (with_reducible refine LeO.bind ?_ (fun _ => ?_))
      | exact ih0 _ _ _ _
      | exact ih1 _ _ _ _ _ _ _ _ _ _ _ _ _ _ _
      | exact ih2 _ _ _ _ _ _ _ _ _ _ _ _ _ _ _ _ _ _
      | exact ih3 _ _ _ _ _ _ _ _ _ _ _ _ _ _ _ _ _ _ _ _ _
      | exact ih4 _ _ _ _ _ _ _ _ _ _ _ _ _ _ _ _ _ _ _
      | exact guard_Seal.mono _ _ _ _
      | exact signalboxlaw40_alive.mono _
      | exact LeO.none _
      | refine LeO.ite ?_ ?_
      | refine LeO.bind ?_ (fun _ => ?_)
set_option maxHeartbeats 8000000 in
set_option maxRecDepth 100000 in
theorem signalboxlaw40_GuardRow.calls (k : Nat) (a0 : Int) (a1 : Int) (A2 : Option Addr) (c2 : Nat) (l2 : List Int) (r : Bool) (w : World) (hr2 : Kd.C (Kd.int .i64) w A2 l2.length l2) (hc2 : l2.length ≤ c2) (h : signalboxlaw40_GuardRow.f k a0 a1 l2 = some r) :
    Calls Try.prog 6 #[.int .i64 a0, .int .i64 a1, .slice A2 l2.length c2] w fun e w' => e = .returned (.bool r) ∧ Below w.heap.size w w' := by
  have HR2 := Aside0.mk hr2
  have HC2 := Aside0.mk hc2
  clear hr2 hc2
  have HB := Aside0.mk (Below.refl w.heap.size w)
  have H : (if a0 < 0 then (signalboxlaw40_GuardRow.j0 k a0 a1 l2 true) else (if a0 > 255 then (signalboxlaw40_GuardRow.j0 k a0 a1 l2 true) else (if a1 < 0 then (signalboxlaw40_GuardRow.j0 k a0 a1 l2 true) else (if a1 > 13 then (signalboxlaw40_GuardRow.j0 k a0 a1 l2 true) else (signalboxlaw40_GuardRow.j0 k a0 a1 l2 (decide ((l2.length : Int) > 60))))))) = some r := h
  clear h
  have HC4 := Aside0.mk H
  clear H
  go_enter Try.func6, Try.ntmps6
  go_upto_region 1 with (fail)
  go_cut [32] (fun v32 wc => ∃ (kq : Nat) (x32_3 : Bool), v32 = .bool x32_3 ∧ Aside0 (signalboxlaw40_GuardRow.j0 kq a0 a1 l2 x32_3 = some r) ∧ Aside0 (kq ≤ k) ∧ Aside0 (Below w.heap.size w wc))
  case first =>
    have H := HC4.out
    clear HC4
    by_cases c5 : a0 < 0
    · rw [if_pos c5] at H
      have c5b0 : decide (a0 < 0) = true := decide_eq_true c5
      clear c5
      (first | rw [c5b0] | (simp only [i64_w, i32_w]; rw [c5b0]) | skip)
      have H' := Aside0.mk H
      clear H
      go_wp2
      go_meet
      case rel => exact ⟨_, (true), (by first | rfl | (simp; done) | (simp [*]; done)), H', ⟨by first | omega | exact Nat.le_refl _⟩, ⟨by repeat (first | (with_reducible first | exact HB.out | apply below_alloc | apply pw_below_drewN | apply below_drew1) | exact HB.out)⟩⟩
    · rw [if_neg c5] at H
      have c5b0 : decide (a0 < 0) = false := decide_eq_false c5
      clear c5
      (first | rw [c5b0] | (simp only [i64_w, i32_w]; rw [c5b0]) | skip)
      by_cases c6 : a0 > 255
      · rw [if_pos c6] at H
        have c6b0 : decide (255 < a0) = true := decide_eq_true c6
        clear c6
        have H' := Aside0.mk H
        clear H
        go_wp2
        go_meet
        case rel => exact ⟨_, (true), (by first | rfl | (simp; done) | (simp [*]; done)), H', ⟨by first | omega | exact Nat.le_refl _⟩, ⟨by repeat (first | (with_reducible first | exact HB.out | apply below_alloc | apply pw_below_drewN | apply below_drew1) | exact HB.out)⟩⟩
      · rw [if_neg c6] at H
        have c6b0 : decide (255 < a0) = false := decide_eq_false c6
        clear c6
        by_cases c7 : a1 < 0
        · rw [if_pos c7] at H
          have c7b0 : decide (a1 < 0) = true := decide_eq_true c7
          clear c7
          have H' := Aside0.mk H
          clear H
          go_wp2
          go_meet
          case rel => exact ⟨_, (true), (by first | rfl | (simp; done) | (simp [*]; done)), H', ⟨by first | omega | exact Nat.le_refl _⟩, ⟨by repeat (first | (with_reducible first | exact HB.out | apply below_alloc | apply pw_below_drewN | apply below_drew1) | exact HB.out)⟩⟩
        · rw [if_neg c7] at H
          have c7b0 : decide (a1 < 0) = false := decide_eq_false c7
          clear c7
          by_cases c8 : a1 > 13
          · rw [if_pos c8] at H
            have c8b0 : decide (13 < a1) = true := decide_eq_true c8
            clear c8
            have H' := Aside0.mk H
            clear H
            go_wp2
            go_meet
            case rel => exact ⟨_, (true), (by first | rfl | (simp; done) | (simp [*]; done)), H', ⟨by first | omega | exact Nat.le_refl _⟩, ⟨by repeat (first | (with_reducible first | exact HB.out | apply below_alloc | apply pw_below_drewN | apply below_drew1) | exact HB.out)⟩⟩
          · rw [if_neg c8] at H
            have c8b0 : decide (13 < a1) = false := decide_eq_false c8
            clear c8
            have H' := Aside0.mk H
            clear H
            go_wp2
            go_meet
            case rel => exact ⟨_, (decide ((l2.length : Int) > 60)), (by first | rfl | (simp; done) | (simp [*]; done)), H', ⟨by first | omega | exact Nat.le_refl _⟩, ⟨by repeat (first | (with_reducible first | exact HB.out | apply below_alloc | apply pw_below_drewN | apply below_drew1) | exact HB.out)⟩⟩
  case rest =>
    clear HC4
    try clear c2
    try clear p2
    try clear c5
    try clear c5b0
    try clear c6
    try clear c6b0
    try clear c7
    try clear c7b0
    try clear c8
    try clear c8b0
    obtain ⟨kq, x32_3, rfl, HA, HJ3, HB⟩ := hcut
    cases kq with
    | zero => exact absurd HA.out (by simp [signalboxlaw40_GuardRow.j0])
    | succ kj3 =>
      have H := HA.out
      clear HA
      simp only [signalboxlaw40_GuardRow.j0] at H
      by_cases c9 : x32_3 = true
      · subst c9
        have H1 : ((signalboxlaw40_alive.f kj3).bind fun t200 => (some t200)) = some r := by rw [if_pos rfl] at H; exact H
        clear H
        have H := H1
        clear H1
        replace H := Option.bind_eq_some_iff.mp H
        obtain ⟨t200, A100, H⟩ := H
        replace H : (some t200) = some r := H
        have A10 := Aside0.mk A100
        clear A100
        obtain rfl := Option.some.inj H
        go_wp2_with (first | ((with_reducible refine gate_callee (f := 12) rfl ?_); refine goesL_ (some 33) rfl rfl Try.func12 (by kernel_rfl) rfl #[] rfl (by (try simp only [List.map_toArray, List.map_cons, List.map_nil]); first | done | rfl | (simp only [List.length_drop, List.length_take]; rfl)) ?_; (with_reducible refine (signalboxlaw40_alive.calls kj3  t200 _ A10.out).mono ?_); rintro e w11 ⟨rfl, hb⟩; refine ⟨_, rfl, ?_⟩; have n0_ := Aside0.mk (below_step (by repeat (first | (with_reducible first | exact HB.out | apply below_alloc | apply pw_below_drewN | apply below_drew1) | exact HB.out)) hb); clear HB; have HB := n0_; clear n0_; (try clear hb); (try clear hb2); (try clear hk); (try clear hi)))
        go_ret
        exact ⟨by first | rfl | (simp [errW_none, errW_some] <;> rfl) | (simp [*, errW_none, errW_some] <;> rfl), by repeat (first | (with_reducible first | exact HB.out | apply below_alloc | apply pw_below_drewN | apply below_drew1) | exact HB.out)⟩
      · replace c9 := Bool.eq_false_iff.mpr c9
        subst c9
        have H1 : ((guard_New.f a0 a1).bind fun bt201 => (signalboxlaw40_GuardRow.l0 kj3 a0 a1 0 l2 (l2.length : Int) 0 bt201.1 bt201.2.1 bt201.2.2.1 bt201.2.2.2.1 bt201.2.2.2.2.1 bt201.2.2.2.2.2.1 bt201.2.2.2.2.2.2.1 bt201.2.2.2.2.2.2.2.1 bt201.2.2.2.2.2.2.2.2)) = some r := by rw [if_neg (show ¬ (false = true) by decide)] at H; exact H
        clear H
        have H := H1
        clear H1
        replace H := Option.bind_eq_some_iff.mp H
        obtain ⟨⟨t201, t202, t203, t204, t205, t206, t207, t208, t209⟩, A120, H⟩ := H
        replace H : (signalboxlaw40_GuardRow.l0 kj3 a0 a1 0 l2 (l2.length : Int) 0 t201 t202 t203 t204 t205 t206 t207 t208 t209) = some r := H
        have A12 := Aside0.mk A120
        clear A120
        have H' := Aside0.mk H
        clear H
        go_wp2_with (first | ((with_reducible refine gate_callee (f := 18) rfl ?_); refine goesL_ (some 36) rfl rfl Try.func18 (by kernel_rfl) rfl #[.int .i64 a0, .int .i64 a1] rfl (by (try simp only [List.map_toArray, List.map_cons, List.map_nil]); first | done | rfl | (simp only [List.length_drop, List.length_take]; rfl)) ?_; (with_reducible refine (guard_New.calls a0 a1 t201 t202 t203 t204 t205 t206 t207 t208 t209 w _ ?side1 A12.out).mono ?_); (case side1 => repeat (first | (with_reducible first | exact HB.out | apply below_alloc | apply pw_below_drewN | apply below_drew1) | exact HB.out)); rintro e w13 ⟨g210, rfl, hi, hb, hb2⟩; refine ⟨_, rfl, ?_⟩; have n0_ := Aside0.mk (hb); have n1_ := Aside0.mk (hi); clear HB; have HB := n0_; have HI210 := n1_; clear n0_ n1_; (try clear hb); (try clear hb2); (try clear hk); (try clear hi)))
        go_loopg [8, 39] kj3 (fun kq v8 v39 w' => ∃ (x8_2 : Int) (x39_2 : Int) (x211000_2 : Int) (x211001_2 : Int) (x211002_2 : Int) (x211003_2 : Bool) (x211004_2 : Int) (x211005_2 : Int) (x211006_2 : Int) (x211007_2 : Int) (x211008_2 : Int), v8 = .int .i64 x8_2 ∧ v39 = .int .i64 x39_2 ∧ Aside0 (signalboxlaw40_GuardRow.l0 kq a0 a1 x8_2 l2 (l2.length : Int) x39_2 x211000_2 x211001_2 x211002_2 x211003_2 x211004_2 x211005_2 x211006_2 x211007_2 x211008_2 = some r) ∧ Aside0 (kq ≤ kj3) ∧ Aside0 (IsS87 w w' g210 x211000_2 x211001_2 x211002_2 x211003_2 x211004_2 x211005_2 x211006_2 x211007_2 x211008_2) ∧ Aside0 (Below w.heap.size w w'))
        case atStart => exact ⟨(0), (0), (t201), (t202), (t203), (t204), (t205), (t206), (t207), (t208), (t209), (by first | rfl | (simp; done) | (simp [*]; done)), (by first | rfl | (simp; done) | (simp [*]; done)), H', ⟨Nat.le_refl _⟩, ⟨by repeat (first | (with_reducible first | exact HI210.out | apply IsS87.alloc | apply IsS87.drewN | apply IsS87.drew | apply IsS87.set_0 | apply IsS87.set_1 | apply IsS87.set_2 | apply IsS87.set_3 | apply IsS87.set_4 | apply IsS87.set_5 | apply IsS87.set_6 | apply IsS87.set_7 | apply IsS87.set_8) | exact HI210.out)⟩, ⟨by repeat (first | (with_reducible first | exact HB.out | apply below_alloc | apply pw_below_drewN | apply below_drew1 | refine below_set ?_ (IsS87.ge HI210.out)) | exact HB.out)⟩⟩
        case round =>
          clear H'
          try clear c1
          try clear c2
          try clear p2
          try clear c5
          try clear c5b0
          try clear c6
          try clear c6b0
          try clear c7
          try clear c7b0
          try clear c8
          try clear c8b0
          try clear c9
          try clear c12
          try clear p2
          obtain ⟨x8_2, x39_2, x211000_2, x211001_2, x211002_2, x211003_2, x211004_2, x211005_2, x211006_2, x211007_2, x211008_2, rfl, rfl, HA, HK2, HI210, HB⟩ := hrel
          cases gk with
          | zero => exact absurd HA.out (by simp [signalboxlaw40_GuardRow.l0])
          | succ k2 =>
            have H := HA.out
            clear HA
            simp only [signalboxlaw40_GuardRow.l0] at H
            by_cases c14 : x39_2 < (l2.length : Int)
            · rw [if_pos c14] at H
              have c14b0 : decide (x39_2 < (l2.length : Int)) = true := decide_eq_true c14
              clear c14
              by_cases c15 : 0 ≤ x39_2
              · rw [if_pos c15] at H
                have c15b0 : decide (0 ≤ x39_2) = true := decide_eq_true c15
                clear c15
                by_cases c16 : x39_2 < (l2.length : Int)
                · rw [if_pos c16] at H
                  have c16b0 : decide (x39_2 < (l2.length : Int)) = true := decide_eq_true c16
                  clear c16
                  have HC17 := Aside0.mk H
                  clear H
                  have p212 : 0 ≤ (x39_2 : Int) := of_decide_eq_true (by first | (with_reducible assumption) | assumption)
                  have q212 : x39_2 < (l2.length : Int) := of_decide_eq_true (by first | (with_reducible assumption) | assumption)
                  obtain ⟨ad212, e212, hx212_0⟩ := Kd.at_int HR2.out x39_2 p212 q212
                  cases e212
                  replace hx212_0 := (HB.out.cell (World.block_lt_of_cell? w _ hx212_0)).trans hx212_0
                  replace p212 := eq_true p212
                  replace q212 := eq_true q212
                  go_upto_region 8 with (fail)
                  go_cut [49] (fun v49 wc => ∃ (kq : Nat) (x49_16 : Bool), v49 = .bool x49_16 ∧ Aside0 (signalboxlaw40_GuardRow.j2 kq a0 a1 x8_2 x39_2 (rd l2 x39_2) l2 (l2.length : Int) x39_2 x49_16 x211000_2 x211001_2 x211002_2 x211003_2 x211004_2 x211005_2 x211006_2 x211007_2 x211008_2 = some r) ∧ Aside0 (kq ≤ k2) ∧ Aside0 (IsS87 w wc g210 x211000_2 x211001_2 x211002_2 x211003_2 x211004_2 x211005_2 x211006_2 x211007_2 x211008_2) ∧ Aside0 (Below w.heap.size w wc))
                  case first =>
                    have H := HC17.out
                    clear HC17
                    by_cases c18 : (rd l2 x39_2) < 0
                    · rw [if_pos c18] at H
                      have c18b0 : decide ((rd l2 x39_2) < 0) = true := decide_eq_true c18
                      clear c18
                      (first | rw [c18b0] | (simp only [i64_w, i32_w]; rw [c18b0]) | skip)
                      have H' := Aside0.mk H
                      clear H
                      go_wp2
                      go_meet
                      case rel => exact ⟨_, (true), (by first | rfl | (simp; done) | (simp [*]; done)), H', ⟨by have := HJ3.out; have := HK2.out; first | omega | exact Nat.le_refl _⟩, ⟨by repeat (first | (with_reducible first | exact HI210.out | apply IsS87.alloc | apply IsS87.drewN | apply IsS87.drew | apply IsS87.set_0 | apply IsS87.set_1 | apply IsS87.set_2 | apply IsS87.set_3 | apply IsS87.set_4 | apply IsS87.set_5 | apply IsS87.set_6 | apply IsS87.set_7 | apply IsS87.set_8) | exact HI210.out)⟩, ⟨by repeat (first | (with_reducible first | exact HB.out | apply below_alloc | apply pw_below_drewN | apply below_drew1 | refine below_set ?_ (IsS87.ge HI210.out)) | exact HB.out)⟩⟩
                    · rw [if_neg c18] at H
                      have c18b0 : decide ((rd l2 x39_2) < 0) = false := decide_eq_false c18
                      clear c18
                      (first | rw [c18b0] | (simp only [i64_w, i32_w]; rw [c18b0]) | skip)
                      have H' := Aside0.mk H
                      clear H
                      go_wp2
                      go_meet
                      case rel => exact ⟨_, (decide ((rd l2 x39_2) > 13)), (by first | rfl | (simp; done) | (simp [*]; done)), H', ⟨by have := HJ3.out; have := HK2.out; first | omega | exact Nat.le_refl _⟩, ⟨by repeat (first | (with_reducible first | exact HI210.out | apply IsS87.alloc | apply IsS87.drewN | apply IsS87.drew | apply IsS87.set_0 | apply IsS87.set_1 | apply IsS87.set_2 | apply IsS87.set_3 | apply IsS87.set_4 | apply IsS87.set_5 | apply IsS87.set_6 | apply IsS87.set_7 | apply IsS87.set_8) | exact HI210.out)⟩, ⟨by repeat (first | (with_reducible first | exact HB.out | apply below_alloc | apply pw_below_drewN | apply below_drew1 | refine below_set ?_ (IsS87.ge HI210.out)) | exact HB.out)⟩⟩
                  case rest =>
                    clear HC17
                    try clear c1
                    try clear c2
                    try clear p2
                    try clear q2
                    try clear hx2
                    try clear c5
                    try clear c5b0
                    try clear c6
                    try clear c6b0
                    try clear c7
                    try clear c7b0
                    try clear c8
                    try clear c8b0
                    try clear c9
                    try clear c12
                    try clear c14
                    try clear c14b0
                    try clear c15
                    try clear c15b0
                    try clear c16
                    try clear c16b0
                    try clear c18
                    try clear c18b0
                    try clear hx212_0
                    try clear p2
                    try clear p212
                    try clear q212
                    obtain ⟨kq, x49_16, rfl, HA, HJ16, HI210, HB⟩ := hcut
                    cases kq with
                    | zero => exact absurd HA.out (by simp [signalboxlaw40_GuardRow.j2])
                    | succ kj16 =>
                      have H := HA.out
                      clear HA
                      simp only [signalboxlaw40_GuardRow.j2] at H
                      by_cases c19 : x49_16 = true
                      · subst c19
                        have H1 : ((signalboxlaw40_alive.f kj16).bind fun t213 => (some t213)) = some r := by rw [if_pos rfl] at H; exact H
                        clear H
                        have H := H1
                        clear H1
                        replace H := Option.bind_eq_some_iff.mp H
                        obtain ⟨t213, A200, H⟩ := H
                        replace H : (some t213) = some r := H
                        have A20 := Aside0.mk A200
                        clear A200
                        obtain rfl := Option.some.inj H
                        go_wp2_with (first | ((with_reducible refine gate_callee (f := 12) rfl ?_); refine goesL_ (some 50) rfl rfl Try.func12 (by kernel_rfl) rfl #[] rfl (by (try simp only [List.map_toArray, List.map_cons, List.map_nil]); first | done | rfl | (simp only [List.length_drop, List.length_take]; rfl)) ?_; (with_reducible refine (signalboxlaw40_alive.calls kj16  t213 _ A20.out).mono ?_); rintro e w21 ⟨rfl, hb⟩; refine ⟨_, rfl, ?_⟩; have n0_ := Aside0.mk (IsS87.below (by repeat (first | (with_reducible first | exact HI210.out | apply IsS87.alloc | apply IsS87.drewN | apply IsS87.drew | apply IsS87.set_0 | apply IsS87.set_1 | apply IsS87.set_2 | apply IsS87.set_3 | apply IsS87.set_4 | apply IsS87.set_5 | apply IsS87.set_6 | apply IsS87.set_7 | apply IsS87.set_8) | exact HI210.out)) hb); have n1_ := Aside0.mk (below_step (by repeat (first | (with_reducible first | exact HB.out | apply below_alloc | apply pw_below_drewN | apply below_drew1 | refine below_set ?_ (IsS87.ge HI210.out)) | exact HB.out)) hb); clear HI210; clear HB; have HI210 := n0_; have HB := n1_; clear n0_ n1_; (try clear hb); (try clear hb2); (try clear hk); (try clear hi)))
                        go_ret
                        exact ⟨by first | rfl | (simp [errW_none, errW_some] <;> rfl) | (simp [*, errW_none, errW_some] <;> rfl), by repeat (first | (with_reducible first | exact HB.out | apply below_alloc | apply pw_below_drewN | apply below_drew1 | refine below_set ?_ (IsS87.ge HI210.out)) | exact HB.out)⟩
                      · replace c19 := Bool.eq_false_iff.mpr c19
                        subst c19
                        have H1 : ((guard_Seal.f kj16 a0 (Int.tmod (wrap64 (x8_2 + (rd l2 x39_2))) 15) (⟨#[120]⟩ : ByteArray)).bind fun bt214 => (if x39_2 > 0 then (signalboxlaw40_GuardRow.j3 kj16 a0 a1 (wrap64 ((wrap64 (x8_2 + (rd l2 x39_2))) + 1)) x39_2 (rd l2 x39_2) bt214.1 bt214.2 1 l2 (l2.length : Int) x39_2 (decide ((rd l2 x39_2) > a1)) x211000_2 x211001_2 x211002_2 x211003_2 x211004_2 x211005_2 x211006_2 x211007_2 x211008_2) else (signalboxlaw40_GuardRow.j3 kj16 a0 a1 (wrap64 ((wrap64 (x8_2 + (rd l2 x39_2))) + 1)) x39_2 (rd l2 x39_2) bt214.1 bt214.2 1 l2 (l2.length : Int) x39_2 false x211000_2 x211001_2 x211002_2 x211003_2 x211004_2 x211005_2 x211006_2 x211007_2 x211008_2))) = some r := by rw [if_neg (show ¬ (false = true) by decide)] at H; exact H
                        clear H
                        have H := H1
                        clear H1
                        replace H := Option.bind_eq_some_iff.mp H
                        obtain ⟨⟨t214, t215⟩, A220, H⟩ := H
                        replace H : (if x39_2 > 0 then (signalboxlaw40_GuardRow.j3 kj16 a0 a1 (wrap64 ((wrap64 (x8_2 + (rd l2 x39_2))) + 1)) x39_2 (rd l2 x39_2) t214 t215 1 l2 (l2.length : Int) x39_2 (decide ((rd l2 x39_2) > a1)) x211000_2 x211001_2 x211002_2 x211003_2 x211004_2 x211005_2 x211006_2 x211007_2 x211008_2) else (signalboxlaw40_GuardRow.j3 kj16 a0 a1 (wrap64 ((wrap64 (x8_2 + (rd l2 x39_2))) + 1)) x39_2 (rd l2 x39_2) t214 t215 1 l2 (l2.length : Int) x39_2 false x211000_2 x211001_2 x211002_2 x211003_2 x211004_2 x211005_2 x211006_2 x211007_2 x211008_2)) = some r := H
                        have A22 := Aside0.mk A220
                        clear A220
                        have HC23 := Aside0.mk H
                        clear H
                        go_upto_region 14 with (first | ((with_reducible refine gate_callee (f := 13) rfl ?_); refine goesL_ (some 58) rfl rfl Try.func13 (by kernel_rfl) rfl #[.int .i64 a0, .int .i64 (Int.tmod (wrap64 (x8_2 + (rd l2 x39_2))) 15), .string (⟨#[120]⟩ : ByteArray)] rfl (by (try simp only [List.map_toArray, List.map_cons, List.map_nil]); first | done | rfl | (simp only [List.length_drop, List.length_take]; rfl)) ?_; (with_reducible refine (guard_Seal.calls kj16 a0 (Int.tmod (wrap64 (x8_2 + (rd l2 x39_2))) 15) (⟨#[120]⟩ : ByteArray) t214 t215 _ A22.out).mono ?_); rintro e w24 ⟨rfl, hb⟩; refine ⟨_, rfl, ?_⟩; have n0_ := Aside0.mk (IsS87.below (by repeat (first | (with_reducible first | exact HI210.out | apply IsS87.alloc | apply IsS87.drewN | apply IsS87.drew | apply IsS87.set_0 | apply IsS87.set_1 | apply IsS87.set_2 | apply IsS87.set_3 | apply IsS87.set_4 | apply IsS87.set_5 | apply IsS87.set_6 | apply IsS87.set_7 | apply IsS87.set_8) | exact HI210.out)) hb); have n1_ := Aside0.mk (below_step (by repeat (first | (with_reducible first | exact HB.out | apply below_alloc | apply pw_below_drewN | apply below_drew1 | refine below_set ?_ (IsS87.ge HI210.out)) | exact HB.out)) hb); clear HI210; clear HB; have HI210 := n0_; have HB := n1_; clear n0_ n1_; (try clear hb); (try clear hb2); (try clear hk); (try clear hi)))
                        (try simp only [Act.put, List.setIfInBounds_toArray, List.set_cons_zero, List.set_cons_succ])
                        go_cut [69] (fun v69 wc => ∃ (kq : Nat) (x69_22 : Bool), v69 = .bool x69_22 ∧ Aside0 (signalboxlaw40_GuardRow.j3 kq a0 a1 (wrap64 ((wrap64 (x8_2 + (rd l2 x39_2))) + 1)) x39_2 (rd l2 x39_2) t214 t215 1 l2 (l2.length : Int) x39_2 x69_22 x211000_2 x211001_2 x211002_2 x211003_2 x211004_2 x211005_2 x211006_2 x211007_2 x211008_2 = some r) ∧ Aside0 (kq ≤ kj16) ∧ Aside0 (IsS87 w wc g210 x211000_2 x211001_2 x211002_2 x211003_2 x211004_2 x211005_2 x211006_2 x211007_2 x211008_2) ∧ Aside0 (Below w.heap.size w wc))
                        case first =>
                          have H := HC23.out
                          clear HC23
                          by_cases c25 : x39_2 > 0
                          · rw [if_pos c25] at H
                            have c25b0 : decide (0 < x39_2) = true := decide_eq_true c25
                            clear c25
                            (first | rw [c25b0] | (simp only [i64_w, i32_w]; rw [c25b0]) | skip)
                            have H' := Aside0.mk H
                            clear H
                            go_wp2
                            go_meet
                            case rel => exact ⟨_, (decide ((rd l2 x39_2) > a1)), (by first | rfl | (simp; done) | (simp [*]; done)), H', ⟨by have := HJ3.out; have := HK2.out; have := HJ16.out; first | omega | exact Nat.le_refl _⟩, ⟨by repeat (first | (with_reducible first | exact HI210.out | apply IsS87.alloc | apply IsS87.drewN | apply IsS87.drew | apply IsS87.set_0 | apply IsS87.set_1 | apply IsS87.set_2 | apply IsS87.set_3 | apply IsS87.set_4 | apply IsS87.set_5 | apply IsS87.set_6 | apply IsS87.set_7 | apply IsS87.set_8) | exact HI210.out)⟩, ⟨by repeat (first | (with_reducible first | exact HB.out | apply below_alloc | apply pw_below_drewN | apply below_drew1 | refine below_set ?_ (IsS87.ge HI210.out)) | exact HB.out)⟩⟩
                          · rw [if_neg c25] at H
                            have c25b0 : decide (0 < x39_2) = false := decide_eq_false c25
                            clear c25
                            (first | rw [c25b0] | (simp only [i64_w, i32_w]; rw [c25b0]) | skip)
                            have H' := Aside0.mk H
                            clear H
                            go_wp2
                            go_meet
                            case rel => exact ⟨_, (false), (by first | rfl | (simp; done) | (simp [*]; done)), H', ⟨by have := HJ3.out; have := HK2.out; have := HJ16.out; first | omega | exact Nat.le_refl _⟩, ⟨by repeat (first | (with_reducible first | exact HI210.out | apply IsS87.alloc | apply IsS87.drewN | apply IsS87.drew | apply IsS87.set_0 | apply IsS87.set_1 | apply IsS87.set_2 | apply IsS87.set_3 | apply IsS87.set_4 | apply IsS87.set_5 | apply IsS87.set_6 | apply IsS87.set_7 | apply IsS87.set_8) | exact HI210.out)⟩, ⟨by repeat (first | (with_reducible first | exact HB.out | apply below_alloc | apply pw_below_drewN | apply below_drew1 | refine below_set ?_ (IsS87.ge HI210.out)) | exact HB.out)⟩⟩
                        case rest =>
                          clear HC23
                          try clear c1
                          try clear c2
                          try clear p2
                          try clear q2
                          try clear hx2
                          try clear c5
                          try clear c5b0
                          try clear c6
                          try clear c6b0
                          try clear p6
                          try clear c7
                          try clear c7b0
                          try clear c8
                          try clear c8b0
                          try clear c9
                          try clear c12
                          try clear c13
                          try clear c14
                          try clear c14b0
                          try clear c15
                          try clear c15b0
                          try clear c16
                          try clear c16b0
                          try clear c18
                          try clear c18b0
                          try clear c19
                          try clear p21
                          try clear q21
                          try clear hx21
                          try clear c25
                          try clear c25b0
                          try clear hx212_0
                          try clear p2
                          try clear p212
                          try clear q2
                          try clear q212
                          obtain ⟨kq, x69_22, rfl, HA, HJ22, HI210, HB⟩ := hcut
                          cases kq with
                          | zero => exact absurd HA.out (by simp [signalboxlaw40_GuardRow.j3])
                          | succ kj22 =>
                            have H := HA.out
                            clear HA
                            simp only [signalboxlaw40_GuardRow.j3] at H
                            by_cases c26 : x69_22 = true
                            · subst c26
                              have H1 : (if t215 = 0 then ((guard_Guard_Take.f x211000_2 x211001_2 x211002_2 x211003_2 x211004_2 x211005_2 x211006_2 x211007_2 x211008_2 t214).bind fun bt216 => (if bt216.1 = 4 then (signalboxlaw40_GuardRow.l0 kj22 a0 a1 (wrap64 ((wrap64 (x8_2 + (rd l2 x39_2))) + 1)) l2 (l2.length : Int) (wrap64 (x39_2 + 1)) bt216.2.1 bt216.2.2.1 bt216.2.2.2.1 bt216.2.2.2.2.1 bt216.2.2.2.2.2.1 bt216.2.2.2.2.2.2.1 bt216.2.2.2.2.2.2.2.1 bt216.2.2.2.2.2.2.2.2.1 bt216.2.2.2.2.2.2.2.2.2) else (some false))) else (some false)) = some r := by rw [if_pos rfl] at H; exact H
                              clear H
                              have H := H1
                              clear H1
                              by_cases c27 : t215 = 0
                              · rw [if_pos c27] at H
                                have c27b0 : (t215 == 0) = true := beq_iff_eq.mpr c27
                                have c27b1 : (t215 != 0) = false := bne_eq_false_iff_eq.mpr c27
                                clear c27
                                replace H := Option.bind_eq_some_iff.mp H
                                obtain ⟨⟨t216, t217, t218, t219, t220, t221, t222, t223, t224, t225⟩, A280, H⟩ := H
                                replace H : (if t216 = 4 then (signalboxlaw40_GuardRow.l0 kj22 a0 a1 (wrap64 ((wrap64 (x8_2 + (rd l2 x39_2))) + 1)) l2 (l2.length : Int) (wrap64 (x39_2 + 1)) t217 t218 t219 t220 t221 t222 t223 t224 t225) else (some false)) = some r := H
                                have A28 := Aside0.mk A280
                                clear A280
                                by_cases c29 : t216 = 4
                                · rw [if_pos c29] at H
                                  have c29b0 : (t216 == 4) = true := beq_iff_eq.mpr c29
                                  have c29b1 : (t216 != 4) = false := bne_eq_false_iff_eq.mpr c29
                                  clear c29
                                  have H' := Aside0.mk H
                                  clear H
                                  go_wp2_with (first | (go_at_call 19; (with_reducible refine (guard_Guard_Take.calls g210 x211000_2 x211001_2 x211002_2 x211003_2 x211004_2 x211005_2 x211006_2 x211007_2 x211008_2 t214 t216 t217 t218 t219 t220 t221 t222 t223 t224 t225 w _ ?side1 ?side2 A28.out).mono ?_); (case side1 => repeat (first | (with_reducible first | exact HI210.out | apply IsS87.alloc | apply IsS87.drewN | apply IsS87.drew | apply IsS87.set_0 | apply IsS87.set_1 | apply IsS87.set_2 | apply IsS87.set_3 | apply IsS87.set_4 | apply IsS87.set_5 | apply IsS87.set_6 | apply IsS87.set_7 | apply IsS87.set_8) | exact HI210.out)); (case side2 => repeat (first | (with_reducible first | exact HB.out | apply below_alloc | apply pw_below_drewN | apply below_drew1 | refine below_set ?_ (IsS87.ge HI210.out)) | exact HB.out)); rintro e w30 ⟨rfl, hi, hb, hk⟩; have n0_ := Aside0.mk (hb); have n1_ := Aside0.mk (hi); clear HB; clear HI210; have HB := n0_; have HI210 := n1_; clear n0_ n1_; (try clear hb); (try clear hb2); (try clear hk); (try clear hi)))
                                  go_roundg kj22
                                  case measure => have := HJ3.out; have := HK2.out; have := HJ16.out; have := HJ22.out; omega
                                  case rel => exact ⟨((wrap64 ((wrap64 (x8_2 + (rd l2 x39_2))) + 1))), (wrap64 (x39_2 + 1)), (t217), (t218), (t219), (t220), (t221), (t222), (t223), (t224), (t225), (by first | rfl | (simp; done) | (simp [*]; done)), (by first | rfl | (simp; done) | (simp [*]; done)), H', ⟨by have := HJ3.out; have := HK2.out; have := HJ16.out; have := HJ22.out; omega⟩, ⟨by repeat (first | (with_reducible first | exact HI210.out | apply IsS87.alloc | apply IsS87.drewN | apply IsS87.drew | apply IsS87.set_0 | apply IsS87.set_1 | apply IsS87.set_2 | apply IsS87.set_3 | apply IsS87.set_4 | apply IsS87.set_5 | apply IsS87.set_6 | apply IsS87.set_7 | apply IsS87.set_8) | exact HI210.out)⟩, ⟨by repeat (first | (with_reducible first | exact HB.out | apply below_alloc | apply pw_below_drewN | apply below_drew1 | refine below_set ?_ (IsS87.ge HI210.out)) | exact HB.out)⟩⟩
                                · rw [if_neg c29] at H
                                  have c29b0 : (t216 == 4) = false := beq_eq_false_iff_ne.mpr c29
                                  have c29b1 : (t216 != 4) = true := bne_iff_ne.mpr c29
                                  obtain rfl := Option.some.inj H
                                  go_wp2_with (first | (go_at_call 19; (with_reducible refine (guard_Guard_Take.calls g210 x211000_2 x211001_2 x211002_2 x211003_2 x211004_2 x211005_2 x211006_2 x211007_2 x211008_2 t214 t216 t217 t218 t219 t220 t221 t222 t223 t224 t225 w _ ?side1 ?side2 A28.out).mono ?_); (case side1 => repeat (first | (with_reducible first | exact HI210.out | apply IsS87.alloc | apply IsS87.drewN | apply IsS87.drew | apply IsS87.set_0 | apply IsS87.set_1 | apply IsS87.set_2 | apply IsS87.set_3 | apply IsS87.set_4 | apply IsS87.set_5 | apply IsS87.set_6 | apply IsS87.set_7 | apply IsS87.set_8) | exact HI210.out)); (case side2 => repeat (first | (with_reducible first | exact HB.out | apply below_alloc | apply pw_below_drewN | apply below_drew1 | refine below_set ?_ (IsS87.ge HI210.out)) | exact HB.out)); rintro e w31 ⟨rfl, hi, hb, hk⟩; have n0_ := Aside0.mk (hb); have n1_ := Aside0.mk (hi); clear HB; clear HI210; have HB := n0_; have HI210 := n1_; clear n0_ n1_; (try clear hb); (try clear hb2); (try clear hk); (try clear hi)))
                                  go_ret
                                  exact ⟨by first | rfl | (simp [errW_none, errW_some] <;> rfl) | (simp [*, errW_none, errW_some] <;> rfl), by repeat (first | (with_reducible first | exact HB.out | apply below_alloc | apply pw_below_drewN | apply below_drew1 | refine below_set ?_ (IsS87.ge HI210.out)) | exact HB.out)⟩
                              · rw [if_neg c27] at H
                                have c27b0 : (t215 == 0) = false := beq_eq_false_iff_ne.mpr c27
                                have c27b1 : (t215 != 0) = true := bne_iff_ne.mpr c27
                                obtain rfl := Option.some.inj H
                                go_wp2
                                go_ret
                                exact ⟨by first | rfl | (simp [errW_none, errW_some] <;> rfl) | (simp [*, errW_none, errW_some] <;> rfl), by repeat (first | (with_reducible first | exact HB.out | apply below_alloc | apply pw_below_drewN | apply below_drew1 | refine below_set ?_ (IsS87.ge HI210.out)) | exact HB.out)⟩
                            · replace c26 := Bool.eq_false_iff.mpr c26
                              subst c26
                              have H1 : (if x39_2 > 0 then (signalboxlaw40_GuardRow.j4 kj22 a0 a1 (wrap64 ((wrap64 (x8_2 + (rd l2 x39_2))) + 1)) t214 t215 1 l2 (l2.length : Int) x39_2 (decide ((rd l2 x39_2) > 0)) x211000_2 x211001_2 x211002_2 x211003_2 x211004_2 x211005_2 x211006_2 x211007_2 x211008_2) else (signalboxlaw40_GuardRow.j4 kj22 a0 a1 (wrap64 ((wrap64 (x8_2 + (rd l2 x39_2))) + 1)) t214 t215 1 l2 (l2.length : Int) x39_2 false x211000_2 x211001_2 x211002_2 x211003_2 x211004_2 x211005_2 x211006_2 x211007_2 x211008_2)) = some r := by rw [if_neg (show ¬ (false = true) by decide)] at H; exact H
                              clear H
                              have H := H1
                              clear H1
                              have HC32 := Aside0.mk H
                              clear H
                              go_upto_region 16 with (fail)
                              go_cut [75] (fun v75 wc => ∃ (kq : Nat) (x75_31 : Bool), v75 = .bool x75_31 ∧ Aside0 (signalboxlaw40_GuardRow.j4 kq a0 a1 (wrap64 ((wrap64 (x8_2 + (rd l2 x39_2))) + 1)) t214 t215 1 l2 (l2.length : Int) x39_2 x75_31 x211000_2 x211001_2 x211002_2 x211003_2 x211004_2 x211005_2 x211006_2 x211007_2 x211008_2 = some r) ∧ Aside0 (kq ≤ kj22) ∧ Aside0 (IsS87 w wc g210 x211000_2 x211001_2 x211002_2 x211003_2 x211004_2 x211005_2 x211006_2 x211007_2 x211008_2) ∧ Aside0 (Below w.heap.size w wc))
                              case first =>
                                have H := HC32.out
                                clear HC32
                                by_cases c33 : x39_2 > 0
                                · rw [if_pos c33] at H
                                  have c33b0 : decide (0 < x39_2) = true := decide_eq_true c33
                                  clear c33
                                  (first | rw [c33b0] | (simp only [i64_w, i32_w]; rw [c33b0]) | skip)
                                  have H' := Aside0.mk H
                                  clear H
                                  go_wp2
                                  go_meet
                                  case rel => exact ⟨_, (decide ((rd l2 x39_2) > 0)), (by first | rfl | (simp; done) | (simp [*]; done)), H', ⟨by have := HJ3.out; have := HK2.out; have := HJ16.out; have := HJ22.out; first | omega | exact Nat.le_refl _⟩, ⟨by repeat (first | (with_reducible first | exact HI210.out | apply IsS87.alloc | apply IsS87.drewN | apply IsS87.drew | apply IsS87.set_0 | apply IsS87.set_1 | apply IsS87.set_2 | apply IsS87.set_3 | apply IsS87.set_4 | apply IsS87.set_5 | apply IsS87.set_6 | apply IsS87.set_7 | apply IsS87.set_8) | exact HI210.out)⟩, ⟨by repeat (first | (with_reducible first | exact HB.out | apply below_alloc | apply pw_below_drewN | apply below_drew1 | refine below_set ?_ (IsS87.ge HI210.out)) | exact HB.out)⟩⟩
                                · rw [if_neg c33] at H
                                  have c33b0 : decide (0 < x39_2) = false := decide_eq_false c33
                                  clear c33
                                  (first | rw [c33b0] | (simp only [i64_w, i32_w]; rw [c33b0]) | skip)
                                  have H' := Aside0.mk H
                                  clear H
                                  go_wp2
                                  go_meet
                                  case rel => exact ⟨_, (false), (by first | rfl | (simp; done) | (simp [*]; done)), H', ⟨by have := HJ3.out; have := HK2.out; have := HJ16.out; have := HJ22.out; first | omega | exact Nat.le_refl _⟩, ⟨by repeat (first | (with_reducible first | exact HI210.out | apply IsS87.alloc | apply IsS87.drewN | apply IsS87.drew | apply IsS87.set_0 | apply IsS87.set_1 | apply IsS87.set_2 | apply IsS87.set_3 | apply IsS87.set_4 | apply IsS87.set_5 | apply IsS87.set_6 | apply IsS87.set_7 | apply IsS87.set_8) | exact HI210.out)⟩, ⟨by repeat (first | (with_reducible first | exact HB.out | apply below_alloc | apply pw_below_drewN | apply below_drew1 | refine below_set ?_ (IsS87.ge HI210.out)) | exact HB.out)⟩⟩
                              case rest =>
                                clear HC32
                                try clear c1
                                try clear c2
                                try clear p2
                                try clear q2
                                try clear hx2
                                try clear c3
                                try clear c5
                                try clear c5b0
                                try clear c6
                                try clear c6b0
                                try clear p6
                                try clear c7
                                try clear c7b0
                                try clear c8
                                try clear c8b0
                                try clear c9
                                try clear c12
                                try clear c13
                                try clear c14
                                try clear c14b0
                                try clear c15
                                try clear c15b0
                                try clear c16
                                try clear c16b0
                                try clear c18
                                try clear c18b0
                                try clear c19
                                try clear p21
                                try clear q21
                                try clear hx21
                                try clear c25
                                try clear c25b0
                                try clear c26
                                try clear c27
                                try clear c27b0
                                try clear c27b1
                                try clear c29
                                try clear c29b0
                                try clear c29b1
                                try clear c33
                                try clear c33b0
                                try clear hx212_0
                                try clear p2
                                try clear p21
                                try clear p212
                                try clear p6
                                try clear q2
                                try clear q21
                                try clear q212
                                obtain ⟨kq, x75_31, rfl, HA, HJ31, HI210, HB⟩ := hcut
                                cases kq with
                                | zero => exact absurd HA.out (by simp [signalboxlaw40_GuardRow.j4])
                                | succ kj31 =>
                                  have H := HA.out
                                  clear HA
                                  simp only [signalboxlaw40_GuardRow.j4] at H
                                  by_cases c34 : x75_31 = true
                                  · subst c34
                                    have H1 : (if t215 = 0 then ((guard_Guard_Take.f x211000_2 x211001_2 x211002_2 x211003_2 x211004_2 x211005_2 x211006_2 x211007_2 x211008_2 t214).bind fun bt226 => (if bt226.1 = 3 then (signalboxlaw40_GuardRow.l0 kj31 a0 a1 (wrap64 ((wrap64 (x8_2 + (rd l2 x39_2))) + 1)) l2 (l2.length : Int) (wrap64 (x39_2 + 1)) bt226.2.1 bt226.2.2.1 bt226.2.2.2.1 bt226.2.2.2.2.1 bt226.2.2.2.2.2.1 bt226.2.2.2.2.2.2.1 bt226.2.2.2.2.2.2.2.1 bt226.2.2.2.2.2.2.2.2.1 bt226.2.2.2.2.2.2.2.2.2) else (some false))) else (some false)) = some r := by rw [if_pos rfl] at H; exact H
                                    clear H
                                    have H := H1
                                    clear H1
                                    by_cases c35 : t215 = 0
                                    · rw [if_pos c35] at H
                                      have c35b0 : (t215 == 0) = true := beq_iff_eq.mpr c35
                                      have c35b1 : (t215 != 0) = false := bne_eq_false_iff_eq.mpr c35
                                      clear c35
                                      replace H := Option.bind_eq_some_iff.mp H
                                      obtain ⟨⟨t226, t227, t228, t229, t230, t231, t232, t233, t234, t235⟩, A360, H⟩ := H
                                      replace H : (if t226 = 3 then (signalboxlaw40_GuardRow.l0 kj31 a0 a1 (wrap64 ((wrap64 (x8_2 + (rd l2 x39_2))) + 1)) l2 (l2.length : Int) (wrap64 (x39_2 + 1)) t227 t228 t229 t230 t231 t232 t233 t234 t235) else (some false)) = some r := H
                                      have A36 := Aside0.mk A360
                                      clear A360
                                      by_cases c37 : t226 = 3
                                      · rw [if_pos c37] at H
                                        have c37b0 : (t226 == 3) = true := beq_iff_eq.mpr c37
                                        have c37b1 : (t226 != 3) = false := bne_eq_false_iff_eq.mpr c37
                                        clear c37
                                        have H' := Aside0.mk H
                                        clear H
                                        go_wp2_with (first | (go_at_call 19; (with_reducible refine (guard_Guard_Take.calls g210 x211000_2 x211001_2 x211002_2 x211003_2 x211004_2 x211005_2 x211006_2 x211007_2 x211008_2 t214 t226 t227 t228 t229 t230 t231 t232 t233 t234 t235 w _ ?side1 ?side2 A36.out).mono ?_); (case side1 => repeat (first | (with_reducible first | exact HI210.out | apply IsS87.alloc | apply IsS87.drewN | apply IsS87.drew | apply IsS87.set_0 | apply IsS87.set_1 | apply IsS87.set_2 | apply IsS87.set_3 | apply IsS87.set_4 | apply IsS87.set_5 | apply IsS87.set_6 | apply IsS87.set_7 | apply IsS87.set_8) | exact HI210.out)); (case side2 => repeat (first | (with_reducible first | exact HB.out | apply below_alloc | apply pw_below_drewN | apply below_drew1 | refine below_set ?_ (IsS87.ge HI210.out)) | exact HB.out)); rintro e w38 ⟨rfl, hi, hb, hk⟩; have n0_ := Aside0.mk (hb); have n1_ := Aside0.mk (hi); clear HB; clear HI210; have HB := n0_; have HI210 := n1_; clear n0_ n1_; (try clear hb); (try clear hb2); (try clear hk); (try clear hi)))
                                        go_roundg kj31
                                        case measure => have := HJ3.out; have := HK2.out; have := HJ16.out; have := HJ22.out; have := HJ31.out; omega
                                        case rel => exact ⟨((wrap64 ((wrap64 (x8_2 + (rd l2 x39_2))) + 1))), (wrap64 (x39_2 + 1)), (t227), (t228), (t229), (t230), (t231), (t232), (t233), (t234), (t235), (by first | rfl | (simp; done) | (simp [*]; done)), (by first | rfl | (simp; done) | (simp [*]; done)), H', ⟨by have := HJ3.out; have := HK2.out; have := HJ16.out; have := HJ22.out; have := HJ31.out; omega⟩, ⟨by repeat (first | (with_reducible first | exact HI210.out | apply IsS87.alloc | apply IsS87.drewN | apply IsS87.drew | apply IsS87.set_0 | apply IsS87.set_1 | apply IsS87.set_2 | apply IsS87.set_3 | apply IsS87.set_4 | apply IsS87.set_5 | apply IsS87.set_6 | apply IsS87.set_7 | apply IsS87.set_8) | exact HI210.out)⟩, ⟨by repeat (first | (with_reducible first | exact HB.out | apply below_alloc | apply pw_below_drewN | apply below_drew1 | refine below_set ?_ (IsS87.ge HI210.out)) | exact HB.out)⟩⟩
                                      · rw [if_neg c37] at H
                                        have c37b0 : (t226 == 3) = false := beq_eq_false_iff_ne.mpr c37
                                        have c37b1 : (t226 != 3) = true := bne_iff_ne.mpr c37
                                        obtain rfl := Option.some.inj H
                                        go_wp2_with (first | (go_at_call 19; (with_reducible refine (guard_Guard_Take.calls g210 x211000_2 x211001_2 x211002_2 x211003_2 x211004_2 x211005_2 x211006_2 x211007_2 x211008_2 t214 t226 t227 t228 t229 t230 t231 t232 t233 t234 t235 w _ ?side1 ?side2 A36.out).mono ?_); (case side1 => repeat (first | (with_reducible first | exact HI210.out | apply IsS87.alloc | apply IsS87.drewN | apply IsS87.drew | apply IsS87.set_0 | apply IsS87.set_1 | apply IsS87.set_2 | apply IsS87.set_3 | apply IsS87.set_4 | apply IsS87.set_5 | apply IsS87.set_6 | apply IsS87.set_7 | apply IsS87.set_8) | exact HI210.out)); (case side2 => repeat (first | (with_reducible first | exact HB.out | apply below_alloc | apply pw_below_drewN | apply below_drew1 | refine below_set ?_ (IsS87.ge HI210.out)) | exact HB.out)); rintro e w39 ⟨rfl, hi, hb, hk⟩; have n0_ := Aside0.mk (hb); have n1_ := Aside0.mk (hi); clear HB; clear HI210; have HB := n0_; have HI210 := n1_; clear n0_ n1_; (try clear hb); (try clear hb2); (try clear hk); (try clear hi)))
                                        go_ret
                                        exact ⟨by first | rfl | (simp [errW_none, errW_some] <;> rfl) | (simp [*, errW_none, errW_some] <;> rfl), by repeat (first | (with_reducible first | exact HB.out | apply below_alloc | apply pw_below_drewN | apply below_drew1 | refine below_set ?_ (IsS87.ge HI210.out)) | exact HB.out)⟩
                                    · rw [if_neg c35] at H
                                      have c35b0 : (t215 == 0) = false := beq_eq_false_iff_ne.mpr c35
                                      have c35b1 : (t215 != 0) = true := bne_iff_ne.mpr c35
                                      obtain rfl := Option.some.inj H
                                      go_wp2
                                      go_ret
                                      exact ⟨by first | rfl | (simp [errW_none, errW_some] <;> rfl) | (simp [*, errW_none, errW_some] <;> rfl), by repeat (first | (with_reducible first | exact HB.out | apply below_alloc | apply pw_below_drewN | apply below_drew1 | refine below_set ?_ (IsS87.ge HI210.out)) | exact HB.out)⟩
                                  · replace c34 := Bool.eq_false_iff.mpr c34
                                    subst c34
                                    have H1 : (if t215 = 0 then ((guard_Guard_Take.f x211000_2 x211001_2 x211002_2 x211003_2 x211004_2 x211005_2 x211006_2 x211007_2 x211008_2 t214).bind fun bt236 => (if bt236.1 = 1 then (signalboxlaw40_GuardRow.l0 kj31 a0 a1 (wrap64 ((wrap64 (x8_2 + (rd l2 x39_2))) + 1)) l2 (l2.length : Int) (wrap64 (x39_2 + 1)) bt236.2.1 bt236.2.2.1 bt236.2.2.2.1 bt236.2.2.2.2.1 bt236.2.2.2.2.2.1 bt236.2.2.2.2.2.2.1 bt236.2.2.2.2.2.2.2.1 bt236.2.2.2.2.2.2.2.2.1 bt236.2.2.2.2.2.2.2.2.2) else (some false))) else (some false)) = some r := by rw [if_neg (show ¬ (false = true) by decide)] at H; exact H
                                    clear H
                                    have H := H1
                                    clear H1
                                    by_cases c40 : t215 = 0
                                    · rw [if_pos c40] at H
                                      have c40b0 : (t215 == 0) = true := beq_iff_eq.mpr c40
                                      have c40b1 : (t215 != 0) = false := bne_eq_false_iff_eq.mpr c40
                                      clear c40
                                      replace H := Option.bind_eq_some_iff.mp H
                                      obtain ⟨⟨t236, t237, t238, t239, t240, t241, t242, t243, t244, t245⟩, A410, H⟩ := H
                                      replace H : (if t236 = 1 then (signalboxlaw40_GuardRow.l0 kj31 a0 a1 (wrap64 ((wrap64 (x8_2 + (rd l2 x39_2))) + 1)) l2 (l2.length : Int) (wrap64 (x39_2 + 1)) t237 t238 t239 t240 t241 t242 t243 t244 t245) else (some false)) = some r := H
                                      have A41 := Aside0.mk A410
                                      clear A410
                                      by_cases c42 : t236 = 1
                                      · rw [if_pos c42] at H
                                        have c42b0 : (t236 == 1) = true := beq_iff_eq.mpr c42
                                        have c42b1 : (t236 != 1) = false := bne_eq_false_iff_eq.mpr c42
                                        clear c42
                                        have H' := Aside0.mk H
                                        clear H
                                        go_wp2_with (first | (go_at_call 19; (with_reducible refine (guard_Guard_Take.calls g210 x211000_2 x211001_2 x211002_2 x211003_2 x211004_2 x211005_2 x211006_2 x211007_2 x211008_2 t214 t236 t237 t238 t239 t240 t241 t242 t243 t244 t245 w _ ?side1 ?side2 A41.out).mono ?_); (case side1 => repeat (first | (with_reducible first | exact HI210.out | apply IsS87.alloc | apply IsS87.drewN | apply IsS87.drew | apply IsS87.set_0 | apply IsS87.set_1 | apply IsS87.set_2 | apply IsS87.set_3 | apply IsS87.set_4 | apply IsS87.set_5 | apply IsS87.set_6 | apply IsS87.set_7 | apply IsS87.set_8) | exact HI210.out)); (case side2 => repeat (first | (with_reducible first | exact HB.out | apply below_alloc | apply pw_below_drewN | apply below_drew1 | refine below_set ?_ (IsS87.ge HI210.out)) | exact HB.out)); rintro e w43 ⟨rfl, hi, hb, hk⟩; have n0_ := Aside0.mk (hb); have n1_ := Aside0.mk (hi); clear HB; clear HI210; have HB := n0_; have HI210 := n1_; clear n0_ n1_; (try clear hb); (try clear hb2); (try clear hk); (try clear hi)))
                                        go_roundg kj31
                                        case measure => have := HJ3.out; have := HK2.out; have := HJ16.out; have := HJ22.out; have := HJ31.out; omega
                                        case rel => exact ⟨((wrap64 ((wrap64 (x8_2 + (rd l2 x39_2))) + 1))), (wrap64 (x39_2 + 1)), (t237), (t238), (t239), (t240), (t241), (t242), (t243), (t244), (t245), (by first | rfl | (simp; done) | (simp [*]; done)), (by first | rfl | (simp; done) | (simp [*]; done)), H', ⟨by have := HJ3.out; have := HK2.out; have := HJ16.out; have := HJ22.out; have := HJ31.out; omega⟩, ⟨by repeat (first | (with_reducible first | exact HI210.out | apply IsS87.alloc | apply IsS87.drewN | apply IsS87.drew | apply IsS87.set_0 | apply IsS87.set_1 | apply IsS87.set_2 | apply IsS87.set_3 | apply IsS87.set_4 | apply IsS87.set_5 | apply IsS87.set_6 | apply IsS87.set_7 | apply IsS87.set_8) | exact HI210.out)⟩, ⟨by repeat (first | (with_reducible first | exact HB.out | apply below_alloc | apply pw_below_drewN | apply below_drew1 | refine below_set ?_ (IsS87.ge HI210.out)) | exact HB.out)⟩⟩
                                      · rw [if_neg c42] at H
                                        have c42b0 : (t236 == 1) = false := beq_eq_false_iff_ne.mpr c42
                                        have c42b1 : (t236 != 1) = true := bne_iff_ne.mpr c42
                                        obtain rfl := Option.some.inj H
                                        go_wp2_with (first | (go_at_call 19; (with_reducible refine (guard_Guard_Take.calls g210 x211000_2 x211001_2 x211002_2 x211003_2 x211004_2 x211005_2 x211006_2 x211007_2 x211008_2 t214 t236 t237 t238 t239 t240 t241 t242 t243 t244 t245 w _ ?side1 ?side2 A41.out).mono ?_); (case side1 => repeat (first | (with_reducible first | exact HI210.out | apply IsS87.alloc | apply IsS87.drewN | apply IsS87.drew | apply IsS87.set_0 | apply IsS87.set_1 | apply IsS87.set_2 | apply IsS87.set_3 | apply IsS87.set_4 | apply IsS87.set_5 | apply IsS87.set_6 | apply IsS87.set_7 | apply IsS87.set_8) | exact HI210.out)); (case side2 => repeat (first | (with_reducible first | exact HB.out | apply below_alloc | apply pw_below_drewN | apply below_drew1 | refine below_set ?_ (IsS87.ge HI210.out)) | exact HB.out)); rintro e w44 ⟨rfl, hi, hb, hk⟩; have n0_ := Aside0.mk (hb); have n1_ := Aside0.mk (hi); clear HB; clear HI210; have HB := n0_; have HI210 := n1_; clear n0_ n1_; (try clear hb); (try clear hb2); (try clear hk); (try clear hi)))
                                        go_ret
                                        exact ⟨by first | rfl | (simp [errW_none, errW_some] <;> rfl) | (simp [*, errW_none, errW_some] <;> rfl), by repeat (first | (with_reducible first | exact HB.out | apply below_alloc | apply pw_below_drewN | apply below_drew1 | refine below_set ?_ (IsS87.ge HI210.out)) | exact HB.out)⟩
                                    · rw [if_neg c40] at H
                                      have c40b0 : (t215 == 0) = false := beq_eq_false_iff_ne.mpr c40
                                      have c40b1 : (t215 != 0) = true := bne_iff_ne.mpr c40
                                      obtain rfl := Option.some.inj H
                                      go_wp2
                                      go_ret
                                      exact ⟨by first | rfl | (simp [errW_none, errW_some] <;> rfl) | (simp [*, errW_none, errW_some] <;> rfl), by repeat (first | (with_reducible first | exact HB.out | apply below_alloc | apply pw_below_drewN | apply below_drew1 | refine below_set ?_ (IsS87.ge HI210.out)) | exact HB.out)⟩
                · rw [if_neg c16] at H
                  exact absurd H (by simp)
              · rw [if_neg c15] at H
                exact absurd H (by simp)
            · rw [if_neg c14] at H
              have c14b0 : decide (x39_2 < (l2.length : Int)) = false := decide_eq_false c14
              clear c14
              replace H := Option.bind_eq_some_iff.mp H
              obtain ⟨t211, A450, H⟩ := H
              replace H : (some t211) = some r := H
              have A45 := Aside0.mk A450
              clear A450
              obtain rfl := Option.some.inj H
              go_wp2_with (first | ((with_reducible refine gate_callee (f := 12) rfl ?_); refine goesL_ (some 86) rfl rfl Try.func12 (by kernel_rfl) rfl #[] rfl (by (try simp only [List.map_toArray, List.map_cons, List.map_nil]); first | done | rfl | (simp only [List.length_drop, List.length_take]; rfl)) ?_; (with_reducible refine (signalboxlaw40_alive.calls k2  t211 _ A45.out).mono ?_); rintro e w46 ⟨rfl, hb⟩; refine ⟨_, rfl, ?_⟩; have n0_ := Aside0.mk (IsS87.below (by repeat (first | (with_reducible first | exact HI210.out | apply IsS87.alloc | apply IsS87.drewN | apply IsS87.drew | apply IsS87.set_0 | apply IsS87.set_1 | apply IsS87.set_2 | apply IsS87.set_3 | apply IsS87.set_4 | apply IsS87.set_5 | apply IsS87.set_6 | apply IsS87.set_7 | apply IsS87.set_8) | exact HI210.out)) hb); have n1_ := Aside0.mk (below_step (by repeat (first | (with_reducible first | exact HB.out | apply below_alloc | apply pw_below_drewN | apply below_drew1 | refine below_set ?_ (IsS87.ge HI210.out)) | exact HB.out)) hb); clear HI210; clear HB; have HI210 := n0_; have HB := n1_; clear n0_ n1_; (try clear hb); (try clear hb2); (try clear hk); (try clear hi)))
              go_ret
              exact ⟨by first | rfl | (simp [errW_none, errW_some] <;> rfl) | (simp [*, errW_none, errW_some] <;> rfl), by repeat (first | (with_reducible first | exact HB.out | apply below_alloc | apply pw_below_drewN | apply below_drew1 | refine below_set ?_ (IsS87.ge HI210.out)) | exact HB.out)⟩

/-- THE ONE PURE STATEMENT of signalboxlaw40_GuardRow: yours. -/
def signalboxlaw40_GuardRow.Pure : Prop := ∀ (a0 : Int) (a1 : Int) (l2 : List Int), (Lit.int .i64 a0).wf = true → (Lit.int .i64 a1).wf = true → l2.length ≤ maxLen → l2.length * 8 ≤ 140737488351232 → (∀ x ∈ l2, (Lit.int .i64 x).wf = true) → ∃ k, signalboxlaw40_GuardRow.f k a0 a1 l2 = some true
theorem signalboxlaw40_GuardRow.walk (P : signalboxlaw40_GuardRow.Pure) (a0 : Int) (a1 : Int) (a2 : Option Addr) (len2 cap2 : Nat) (z2 : List Int) (w : World) (w0 : (Lit.int .i64 a0).wf = true) (w1 : (Lit.int .i64 a1).wf = true) (w2 : (a2 = none ∧ len2 = 0 ∧ cap2 = 0 ∧ z2 = []) ∨ ∃ x, a2 = some x ∧ len2 ≤ cap2 ∧ cap2 ≤ maxLen ∧ z2.length = cap2 ∧ (∀ i, i < z2.length → w.cell? (x.add i) = some (.int .i64 (z2.getD i 0))) ∧ ∀ n ∈ z2, (Lit.int .i64 n).wf = true) (y2 : len2 * 8 ≤ 140737488351232) :
    Calls Try.prog 6 #[.int .i64 a0, .int .i64 a1, .slice a2 len2 cap2] w fun e w' => e = .returned (.bool true) ∧ Below w.heap.size w w' := by
  obtain ⟨l2, rfl, hr2, hm2, hw2, hc2⟩ := ReadsInt.ofRowC w2
  obtain ⟨k, h⟩ := P a0 a1 l2 w0 w1 hm2 y2 hw2
  refine (signalboxlaw40_GuardRow.calls k a0 a1 _ _ l2 true w (Kd.C_of_reads (d := (0 : Int)) (h1 := fun _ => rfl) hr2) hc2 h).mono ?_
  rintro e w' ⟨rfl, hd⟩
  exact ⟨rfl, hd⟩

end Go.Proofs.Ythgnhhdblbiihaa.P
