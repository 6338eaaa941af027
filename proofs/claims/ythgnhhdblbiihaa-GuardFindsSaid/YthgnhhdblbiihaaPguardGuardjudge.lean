/- Printed for this claim by a program of the session (wip/gp.py, which drives the kit's printer): a Go function as a plain Lean function, and that its call answers it, wherever that function answers; no other conditions. -/
import Derived.Test.YthgnhhdblbiihaaP0
import Derived.Test.YthgnhhdblbiihaaPguardNew
namespace Go.Proofs.Ythgnhhdblbiihaa.P
open Go.RowKit Go.Proofs.YthgnhhdblbiihaaW.PrintWords Go.Proofs.YthgnhhdblbiihaaW.PrintLast Go.Proofs.YthgnhhdblbiihaaW.PrintMore
attribute [local go_sem] max2_int min2_int max_two min_two max_three min_three max_four min_four   -- for this text's walks alone
set_option linter.unusedVariables false
set_option linter.unusedSimpArgs false

/-! ### guard_Guard_judge: function 43 -/
def guard_Guard_judge.j0 : Nat → Int → Bool → Int → Int → Int → Bool → Int → Int → Int → Int → Int → Option (Int × Int × Int × Int × Bool × Int × Int × Int × Int × Int)
  | 0, _, _, _, _, _, _, _, _, _, _, _ => none
  | k + 1, x5, x14, x1000, x1001, x1002, x1003, x1004, x1005, x1006, x1007, x1008 => if x14 = true then (some (1, x1000, x1001, x1002, x1003, x1004, x1005, x1006, x1007, x1008)) else (if x5 = 0 then (some (2, x1000, x1001, x1002, x1003, x1004, x1005, x1006, x1007, x1008)) else (if x5 ≤ (wrap64 (x1001 + 1)) then (some (3, x1000, x1001, x1002, x1003, x1004, x1005, x1006, x1007, x1008)) else (some (4, x1000, x1001, x1002, x1003, x1004, x1005, x1006, x1007, x1008))))
def guard_Guard_judge.f (k : Nat) (s0_0 : Int) (s0_1 : Int) (s0_2 : Int) (s0_3 : Bool) (s0_4 : Int) (s0_5 : Int) (s0_6 : Int) (s0_7 : Int) (s0_8 : Int) (a1 : Int) : Option (Int × Int × Int × Int × Bool × Int × Int × Int × Int × Int) := if s0_3 = true then (guard_Guard_judge.j0 k (Int.tmod (wrap64 ((wrap64 (a1 - s0_2)) + 15)) 15) ((Int.tmod (wrap64 ((wrap64 (a1 - s0_2)) + 15)) 15) == 1) s0_0 s0_1 s0_2 s0_3 s0_4 s0_5 s0_6 s0_7 s0_8) else (guard_Guard_judge.j0 k (Int.tmod (wrap64 ((wrap64 (a1 - s0_2)) + 15)) 15) true s0_0 s0_1 s0_2 s0_3 s0_4 s0_5 s0_6 s0_7 s0_8)
theorem guard_Guard_judge.mono_l : ∀ k, (∀ y0 y1 y2 y3 y4 y5 y6 y7 y8 y9 y10, LeO (guard_Guard_judge.j0 k y0 y1 y2 y3 y4 y5 y6 y7 y8 y9 y10) (guard_Guard_judge.j0 (k + 1) y0 y1 y2 y3 y4 y5 y6 y7 y8 y9 y10))
  | 0 => fun _ _ _ _ _ _ _ _ _ _ _ r h => by simp [guard_Guard_judge.j0] at h
  | k + 1 => by
    have ih0 := guard_Guard_judge.mono_l k
    · intro y0 y1 y2 y3 y4 y5 y6 y7 y8 y9 y10
      unfold guard_Guard_judge.j0
      repeat' first
      | (with_reducible exact ih0 _ _ _ _ _ _ _ _ _ _ _)
      | (with_reducible exact LeO.refl _)
      | (with_reducible exact LeO.none _)
      | (with_reducible refine LeO.ite ?_ ?_)
      | (with_reducible refine LeO.bind ?_ (fun _ => ?_))
      | exact ih0 _ _ _ _ _ _ _ _ _ _ _
      | exact LeO.none _
      | refine LeO.ite ?_ ?_
      | refine LeO.bind ?_ (fun _ => ?_)
theorem guard_Guard_judge.mono : ∀ a0 a1 a2 a3 a4 a5 a6 a7 a8 a9 k, LeO (guard_Guard_judge.f k a0 a1 a2 a3 a4 a5 a6 a7 a8 a9) (guard_Guard_judge.f (k + 1) a0 a1 a2 a3 a4 a5 a6 a7 a8 a9) := by
  intro a0 a1 a2 a3 a4 a5 a6 a7 a8 a9 k
  have ih0 := guard_Guard_judge.mono_l k
  unfold guard_Guard_judge.f
  repeat' first
      | (with_reducible exact ih0 _ _ _ _ _ _ _ _ _ _ _)
      | (with_reducible exact LeO.refl _)
      | (with_reducible exact LeO.none _)
      | (with_reducible refine LeO.ite ?_ ?_)
      | (with_reducible refine LeO.bind ?_ (fun _ => ?_))
      | exact ih0 _ _ _ _ _ _ _ _ _ _ _
      | exact LeO.none _
      | refine LeO.ite ?_ ?_
      | refine LeO.bind ?_ (fun _ => ?_)
set_option maxHeartbeats 8000000 in
set_option maxRecDepth 100000 in
theorem guard_Guard_judge.calls (k : Nat) (g : Nat) (s0_0 : Int) (s0_1 : Int) (s0_2 : Int) (s0_3 : Bool) (s0_4 : Int) (s0_5 : Int) (s0_6 : Int) (s0_7 : Int) (s0_8 : Int) (a1 : Int) (r1 : Int) (r2 : Int) (r3 : Int) (r4 : Int) (r5 : Bool) (r6 : Int) (r7 : Int) (r8 : Int) (r9 : Int) (r10 : Int) (w0 w : World) (hI : IsS87 w0 w g s0_0 s0_1 s0_2 s0_3 s0_4 s0_5 s0_6 s0_7 s0_8) (hB : Below w0.heap.size w0 w) (h : guard_Guard_judge.f k s0_0 s0_1 s0_2 s0_3 s0_4 s0_5 s0_6 s0_7 s0_8 a1 = some (r1, r2, r3, r4, r5, r6, r7, r8, r9, r10)) :
    Calls Try.prog 43 #[.pointer (some ⟨g, 0, none⟩), .int .i64 a1] w fun e w' => e = .returned (.int .i64 r1) ∧ IsS87 w0 w' g r2 r3 r4 r5 r6 r7 r8 r9 r10 ∧ Below w0.heap.size w0 w' ∧ KeepBut w w' g none := by
  have HI0 := Aside0.mk hI
  have HK := Aside0.mk (KeepBut.refl w g none)
  have HL := Aside0.mk hB.size
  clear hI
  have HW0 := Aside0.mk hB.size
  have HB := Aside0.mk hB
  clear hB
  have H : (if s0_3 = true then (guard_Guard_judge.j0 k (Int.tmod (wrap64 ((wrap64 (a1 - s0_2)) + 15)) 15) ((Int.tmod (wrap64 ((wrap64 (a1 - s0_2)) + 15)) 15) == 1) s0_0 s0_1 s0_2 s0_3 s0_4 s0_5 s0_6 s0_7 s0_8) else (guard_Guard_judge.j0 k (Int.tmod (wrap64 ((wrap64 (a1 - s0_2)) + 15)) 15) true s0_0 s0_1 s0_2 s0_3 s0_4 s0_5 s0_6 s0_7 s0_8)) = some (r1, r2, r3, r4, r5, r6, r7, r8, r9, r10) := h
  clear h
  have HC3 := Aside0.mk H
  clear H
  obtain ⟨HGz4, hgz4⟩ := HI0.out
  have hcz4_0 := cellS87_0 HGz4
  have hcz4_1 := cellS87_1 HGz4
  have hcz4_2 := cellS87_2 HGz4
  have hcz4_3 := cellS87_3 HGz4
  have hcz4_4 := cellS87_4 HGz4
  have hcz4_5 := cellS87_5 HGz4
  have hcz4_6 := cellS87_6 HGz4
  have hcz4_7 := cellS87_7 HGz4
  have hcz4_8 := cellS87_8 HGz4
  have hfz4_0 := blk_frozen HGz4 0
  have hfz4_1 := blk_frozen HGz4 1
  have hfz4_2 := blk_frozen HGz4 2
  have hfz4_3 := blk_frozen HGz4 3
  have hfz4_4 := blk_frozen HGz4 4
  have hfz4_5 := blk_frozen HGz4 5
  have hfz4_6 := blk_frozen HGz4 6
  have hfz4_7 := blk_frozen HGz4 7
  have hfz4_8 := blk_frozen HGz4 8
  clear HGz4 hgz4
  go_enter Try.func43, Try.ntmps43
  go_upto_region 2 with (fail)
  go_cut [14] (fun v14 wc => ∃ (kq : Nat) (x14_2 : Bool), v14 = .bool x14_2 ∧ Aside0 (guard_Guard_judge.j0 kq (Int.tmod (wrap64 ((wrap64 (a1 - s0_2)) + 15)) 15) x14_2 s0_0 s0_1 s0_2 s0_3 s0_4 s0_5 s0_6 s0_7 s0_8 = some (r1, r2, r3, r4, r5, r6, r7, r8, r9, r10)) ∧ Aside0 (kq ≤ k) ∧ Aside0 (IsS87 w0 wc g s0_0 s0_1 s0_2 s0_3 s0_4 s0_5 s0_6 s0_7 s0_8) ∧ Aside0 (KeepBut w wc g none) ∧ Aside0 (Below w0.heap.size w0 wc))
  case first =>
    have H := HC3.out
    clear HC3
    by_cases c5 : s0_3 = true
    · subst c5
      have H1 : (guard_Guard_judge.j0 k (Int.tmod (wrap64 ((wrap64 (a1 - s0_2)) + 15)) 15) ((Int.tmod (wrap64 ((wrap64 (a1 - s0_2)) + 15)) 15) == 1) s0_0 s0_1 s0_2 true s0_4 s0_5 s0_6 s0_7 s0_8) = some (r1, r2, r3, r4, r5, r6, r7, r8, r9, r10) := by rw [if_pos rfl] at H; exact H
      clear H
      have H := H1
      clear H1
      have H' := Aside0.mk H
      clear H
      obtain ⟨HGz6, hgz6⟩ := HI0.out
      have hcz6_0 := cellS87_0 HGz6
      have hcz6_1 := cellS87_1 HGz6
      have hcz6_2 := cellS87_2 HGz6
      have hcz6_3 := cellS87_3 HGz6
      have hcz6_4 := cellS87_4 HGz6
      have hcz6_5 := cellS87_5 HGz6
      have hcz6_6 := cellS87_6 HGz6
      have hcz6_7 := cellS87_7 HGz6
      have hcz6_8 := cellS87_8 HGz6
      have hfz6_0 := blk_frozen HGz6 0
      have hfz6_1 := blk_frozen HGz6 1
      have hfz6_2 := blk_frozen HGz6 2
      have hfz6_3 := blk_frozen HGz6 3
      have hfz6_4 := blk_frozen HGz6 4
      have hfz6_5 := blk_frozen HGz6 5
      have hfz6_6 := blk_frozen HGz6 6
      have hfz6_7 := blk_frozen HGz6 7
      have hfz6_8 := blk_frozen HGz6 8
      clear HGz6 hgz6
      go_wp2
      go_meet
      case rel => exact ⟨_, (((Int.tmod (wrap64 ((wrap64 (a1 - s0_2)) + 15)) 15) == 1)), (by first | rfl | (simp; done) | (simp [*]; done)), H', ⟨by first | omega | exact Nat.le_refl _⟩, ⟨by repeat (first | (with_reducible first | exact HI0.out | apply IsS87.alloc | apply IsS87.drewN | apply IsS87.drew | apply IsS87.set_0 | apply IsS87.set_1 | apply IsS87.set_2 | apply IsS87.set_3 | apply IsS87.set_4 | apply IsS87.set_5 | apply IsS87.set_6 | apply IsS87.set_7 | apply IsS87.set_8) | exact HI0.out)⟩, ⟨by repeat (first | (with_reducible first | exact HK.out | apply KeepBut.set_ | apply keep_drewN | apply keep_drew | apply keep_alloc) | exact HK.out)⟩, ⟨by repeat (first | (with_reducible first | exact HB.out | apply below_alloc | apply pw_below_drewN | apply below_drew1 | refine below_set ?_ (IsS87.ge HI0.out)) | exact HB.out)⟩⟩
    · replace c5 := Bool.eq_false_iff.mpr c5
      subst c5
      have H1 : (guard_Guard_judge.j0 k (Int.tmod (wrap64 ((wrap64 (a1 - s0_2)) + 15)) 15) true s0_0 s0_1 s0_2 false s0_4 s0_5 s0_6 s0_7 s0_8) = some (r1, r2, r3, r4, r5, r6, r7, r8, r9, r10) := by rw [if_neg (show ¬ (false = true) by decide)] at H; exact H
      clear H
      have H := H1
      clear H1
      have H' := Aside0.mk H
      clear H
      obtain ⟨HGz7, hgz7⟩ := HI0.out
      have hcz7_0 := cellS87_0 HGz7
      have hcz7_1 := cellS87_1 HGz7
      have hcz7_2 := cellS87_2 HGz7
      have hcz7_3 := cellS87_3 HGz7
      have hcz7_4 := cellS87_4 HGz7
      have hcz7_5 := cellS87_5 HGz7
      have hcz7_6 := cellS87_6 HGz7
      have hcz7_7 := cellS87_7 HGz7
      have hcz7_8 := cellS87_8 HGz7
      have hfz7_0 := blk_frozen HGz7 0
      have hfz7_1 := blk_frozen HGz7 1
      have hfz7_2 := blk_frozen HGz7 2
      have hfz7_3 := blk_frozen HGz7 3
      have hfz7_4 := blk_frozen HGz7 4
      have hfz7_5 := blk_frozen HGz7 5
      have hfz7_6 := blk_frozen HGz7 6
      have hfz7_7 := blk_frozen HGz7 7
      have hfz7_8 := blk_frozen HGz7 8
      clear HGz7 hgz7
      go_wp2
      go_meet
      case rel => exact ⟨_, (true), (by first | rfl | (simp; done) | (simp [*]; done)), H', ⟨by first | omega | exact Nat.le_refl _⟩, ⟨by repeat (first | (with_reducible first | exact HI0.out | apply IsS87.alloc | apply IsS87.drewN | apply IsS87.drew | apply IsS87.set_0 | apply IsS87.set_1 | apply IsS87.set_2 | apply IsS87.set_3 | apply IsS87.set_4 | apply IsS87.set_5 | apply IsS87.set_6 | apply IsS87.set_7 | apply IsS87.set_8) | exact HI0.out)⟩, ⟨by repeat (first | (with_reducible first | exact HK.out | apply KeepBut.set_ | apply keep_drewN | apply keep_drew | apply keep_alloc) | exact HK.out)⟩, ⟨by repeat (first | (with_reducible first | exact HB.out | apply below_alloc | apply pw_below_drewN | apply below_drew1 | refine below_set ?_ (IsS87.ge HI0.out)) | exact HB.out)⟩⟩
  case rest =>
    clear HC3
    try clear p2
    try clear c4
    try clear c5
    try clear p6
    try clear hcz4_0
    try clear hcz4_1
    try clear hcz4_2
    try clear hcz4_3
    try clear hcz4_4
    try clear hcz4_5
    try clear hcz4_6
    try clear hcz4_7
    try clear hcz4_8
    try clear hcz6_0
    try clear hcz6_1
    try clear hcz6_2
    try clear hcz6_3
    try clear hcz6_4
    try clear hcz6_5
    try clear hcz6_6
    try clear hcz6_7
    try clear hcz6_8
    try clear hcz7_0
    try clear hcz7_1
    try clear hcz7_2
    try clear hcz7_3
    try clear hcz7_4
    try clear hcz7_5
    try clear hcz7_6
    try clear hcz7_7
    try clear hcz7_8
    try clear hfz4_0
    try clear hfz4_1
    try clear hfz4_2
    try clear hfz4_3
    try clear hfz4_4
    try clear hfz4_5
    try clear hfz4_6
    try clear hfz4_7
    try clear hfz4_8
    try clear hfz6_0
    try clear hfz6_1
    try clear hfz6_2
    try clear hfz6_3
    try clear hfz6_4
    try clear hfz6_5
    try clear hfz6_6
    try clear hfz6_7
    try clear hfz6_8
    try clear hfz7_0
    try clear hfz7_1
    try clear hfz7_2
    try clear hfz7_3
    try clear hfz7_4
    try clear hfz7_5
    try clear hfz7_6
    try clear hfz7_7
    try clear hfz7_8
    obtain ⟨kq, x14_2, rfl, HA, HJ2, HI0, HK, HB⟩ := hcut
    cases kq with
    | zero => exact absurd HA.out (by simp [guard_Guard_judge.j0])
    | succ kj2 =>
      have H := HA.out
      clear HA
      simp only [guard_Guard_judge.j0] at H
      by_cases c8 : x14_2 = true
      · subst c8
        have H1 : (some (1, s0_0, s0_1, s0_2, s0_3, s0_4, s0_5, s0_6, s0_7, s0_8)) = some (r1, r2, r3, r4, r5, r6, r7, r8, r9, r10) := by rw [if_pos rfl] at H; exact H
        clear H
        have H := H1
        clear H1
        simp only [Option.some.injEq, Prod.mk.injEq] at H
        obtain ⟨rfl, rfl, rfl, rfl, rfl, rfl, rfl, rfl, rfl, rfl⟩ := H
        go_wp2
        go_ret
        exact ⟨by first | rfl | (simp [errW_none, errW_some] <;> rfl) | (simp [*, errW_none, errW_some] <;> rfl), by repeat (first | (with_reducible first | exact HI0.out | apply IsS87.alloc | apply IsS87.drewN | apply IsS87.drew | apply IsS87.set_0 | apply IsS87.set_1 | apply IsS87.set_2 | apply IsS87.set_3 | apply IsS87.set_4 | apply IsS87.set_5 | apply IsS87.set_6 | apply IsS87.set_7 | apply IsS87.set_8) | exact HI0.out), by repeat (first | (with_reducible first | exact HB.out | apply below_alloc | apply pw_below_drewN | apply below_drew1 | refine below_set ?_ (IsS87.ge HI0.out)) | exact HB.out), by repeat (first | (with_reducible first | exact HK.out | apply KeepBut.set_ | apply keep_drewN | apply keep_drew | apply keep_alloc) | exact HK.out)⟩
      · replace c8 := Bool.eq_false_iff.mpr c8
        subst c8
        have H1 : (if (Int.tmod (wrap64 ((wrap64 (a1 - s0_2)) + 15)) 15) = 0 then (some (2, s0_0, s0_1, s0_2, s0_3, s0_4, s0_5, s0_6, s0_7, s0_8)) else (if (Int.tmod (wrap64 ((wrap64 (a1 - s0_2)) + 15)) 15) ≤ (wrap64 (s0_1 + 1)) then (some (3, s0_0, s0_1, s0_2, s0_3, s0_4, s0_5, s0_6, s0_7, s0_8)) else (some (4, s0_0, s0_1, s0_2, s0_3, s0_4, s0_5, s0_6, s0_7, s0_8)))) = some (r1, r2, r3, r4, r5, r6, r7, r8, r9, r10) := by rw [if_neg (show ¬ (false = true) by decide)] at H; exact H
        clear H
        have H := H1
        clear H1
        by_cases c9 : (Int.tmod (wrap64 ((wrap64 (a1 - s0_2)) + 15)) 15) = 0
        · rw [if_pos c9] at H
          have c9b0 : ((Int.tmod (wrap64 ((wrap64 (a1 - s0_2)) + 15)) 15) == 0) = true := beq_iff_eq.mpr c9
          have c9b1 : ((Int.tmod (wrap64 ((wrap64 (a1 - s0_2)) + 15)) 15) != 0) = false := bne_eq_false_iff_eq.mpr c9
          clear c9
          simp only [Option.some.injEq, Prod.mk.injEq] at H
          obtain ⟨rfl, rfl, rfl, rfl, rfl, rfl, rfl, rfl, rfl, rfl⟩ := H
          go_wp2
          go_ret
          exact ⟨by first | rfl | (simp [errW_none, errW_some] <;> rfl) | (simp [*, errW_none, errW_some] <;> rfl), by repeat (first | (with_reducible first | exact HI0.out | apply IsS87.alloc | apply IsS87.drewN | apply IsS87.drew | apply IsS87.set_0 | apply IsS87.set_1 | apply IsS87.set_2 | apply IsS87.set_3 | apply IsS87.set_4 | apply IsS87.set_5 | apply IsS87.set_6 | apply IsS87.set_7 | apply IsS87.set_8) | exact HI0.out), by repeat (first | (with_reducible first | exact HB.out | apply below_alloc | apply pw_below_drewN | apply below_drew1 | refine below_set ?_ (IsS87.ge HI0.out)) | exact HB.out), by repeat (first | (with_reducible first | exact HK.out | apply KeepBut.set_ | apply keep_drewN | apply keep_drew | apply keep_alloc) | exact HK.out)⟩
        · rw [if_neg c9] at H
          have c9b0 : ((Int.tmod (wrap64 ((wrap64 (a1 - s0_2)) + 15)) 15) == 0) = false := beq_eq_false_iff_ne.mpr c9
          have c9b1 : ((Int.tmod (wrap64 ((wrap64 (a1 - s0_2)) + 15)) 15) != 0) = true := bne_iff_ne.mpr c9
          by_cases c10 : (Int.tmod (wrap64 ((wrap64 (a1 - s0_2)) + 15)) 15) ≤ (wrap64 (s0_1 + 1))
          · rw [if_pos c10] at H
            have c10b0 : decide ((Int.tmod (wrap64 ((wrap64 (a1 - s0_2)) + 15)) 15) ≤ (wrap64 (s0_1 + 1))) = true := decide_eq_true c10
            clear c10
            simp only [Option.some.injEq, Prod.mk.injEq] at H
            obtain ⟨rfl, rfl, rfl, rfl, rfl, rfl, rfl, rfl, rfl, rfl⟩ := H
            obtain ⟨HGz11, hgz11⟩ := HI0.out
            have hcz11_0 := cellS87_0 HGz11
            have hcz11_1 := cellS87_1 HGz11
            have hcz11_2 := cellS87_2 HGz11
            have hcz11_3 := cellS87_3 HGz11
            have hcz11_4 := cellS87_4 HGz11
            have hcz11_5 := cellS87_5 HGz11
            have hcz11_6 := cellS87_6 HGz11
            have hcz11_7 := cellS87_7 HGz11
            have hcz11_8 := cellS87_8 HGz11
            have hfz11_0 := blk_frozen HGz11 0
            have hfz11_1 := blk_frozen HGz11 1
            have hfz11_2 := blk_frozen HGz11 2
            have hfz11_3 := blk_frozen HGz11 3
            have hfz11_4 := blk_frozen HGz11 4
            have hfz11_5 := blk_frozen HGz11 5
            have hfz11_6 := blk_frozen HGz11 6
            have hfz11_7 := blk_frozen HGz11 7
            have hfz11_8 := blk_frozen HGz11 8
            clear HGz11 hgz11
            go_wp2
            go_ret
            exact ⟨by first | rfl | (simp [errW_none, errW_some] <;> rfl) | (simp [*, errW_none, errW_some] <;> rfl), by repeat (first | (with_reducible first | exact HI0.out | apply IsS87.alloc | apply IsS87.drewN | apply IsS87.drew | apply IsS87.set_0 | apply IsS87.set_1 | apply IsS87.set_2 | apply IsS87.set_3 | apply IsS87.set_4 | apply IsS87.set_5 | apply IsS87.set_6 | apply IsS87.set_7 | apply IsS87.set_8) | exact HI0.out), by repeat (first | (with_reducible first | exact HB.out | apply below_alloc | apply pw_below_drewN | apply below_drew1 | refine below_set ?_ (IsS87.ge HI0.out)) | exact HB.out), by repeat (first | (with_reducible first | exact HK.out | apply KeepBut.set_ | apply keep_drewN | apply keep_drew | apply keep_alloc) | exact HK.out)⟩
          · rw [if_neg c10] at H
            have c10b0 : decide ((Int.tmod (wrap64 ((wrap64 (a1 - s0_2)) + 15)) 15) ≤ (wrap64 (s0_1 + 1))) = false := decide_eq_false c10
            clear c10
            simp only [Option.some.injEq, Prod.mk.injEq] at H
            obtain ⟨rfl, rfl, rfl, rfl, rfl, rfl, rfl, rfl, rfl, rfl⟩ := H
            obtain ⟨HGz12, hgz12⟩ := HI0.out
            have hcz12_0 := cellS87_0 HGz12
            have hcz12_1 := cellS87_1 HGz12
            have hcz12_2 := cellS87_2 HGz12
            have hcz12_3 := cellS87_3 HGz12
            have hcz12_4 := cellS87_4 HGz12
            have hcz12_5 := cellS87_5 HGz12
            have hcz12_6 := cellS87_6 HGz12
            have hcz12_7 := cellS87_7 HGz12
            have hcz12_8 := cellS87_8 HGz12
            have hfz12_0 := blk_frozen HGz12 0
            have hfz12_1 := blk_frozen HGz12 1
            have hfz12_2 := blk_frozen HGz12 2
            have hfz12_3 := blk_frozen HGz12 3
            have hfz12_4 := blk_frozen HGz12 4
            have hfz12_5 := blk_frozen HGz12 5
            have hfz12_6 := blk_frozen HGz12 6
            have hfz12_7 := blk_frozen HGz12 7
            have hfz12_8 := blk_frozen HGz12 8
            clear HGz12 hgz12
            go_wp2
            go_ret
            exact ⟨by first | rfl | (simp [errW_none, errW_some] <;> rfl) | (simp [*, errW_none, errW_some] <;> rfl), by repeat (first | (with_reducible first | exact HI0.out | apply IsS87.alloc | apply IsS87.drewN | apply IsS87.drew | apply IsS87.set_0 | apply IsS87.set_1 | apply IsS87.set_2 | apply IsS87.set_3 | apply IsS87.set_4 | apply IsS87.set_5 | apply IsS87.set_6 | apply IsS87.set_7 | apply IsS87.set_8) | exact HI0.out), by repeat (first | (with_reducible first | exact HB.out | apply below_alloc | apply pw_below_drewN | apply below_drew1 | refine below_set ?_ (IsS87.ge HI0.out)) | exact HB.out), by repeat (first | (with_reducible first | exact HK.out | apply KeepBut.set_ | apply keep_drewN | apply keep_drew | apply keep_alloc) | exact HK.out)⟩

end Go.Proofs.Ythgnhhdblbiihaa.P
