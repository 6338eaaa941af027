/- BandNil's walk: a queue that is none. -/
import Derived.Test.YtkmhdibabdifbaaGBandAlive
import Derived.Test.YtkmhdibabdifbaaGBandOpen
import Derived.Test.YtkmhdibabdifbaaPEq29
namespace Go.Proofs.Ytkmhdibabdifbaa.P
open Go.RowKit Go.Proofs.YtkmhdibabdifbaaW.PrintWords Go.Proofs.YtkmhdibabdifbaaW.PrintLast Go.Proofs.YtkmhdibabdifbaaW.PrintMore
set_option linter.unusedVariables false
set_option linter.unusedSimpArgs false

set_option maxHeartbeats 4000000 in
set_option maxRecDepth 100000 in
theorem nil_Stop (w : World) : Calls Try.prog 14 #[.pointer none] w fun e w' => e = .returned (.tuple #[]) ∧ Below w.heap.size w w' := by
  go_enter Try.func14, Try.ntmps14
  go_wp2
  go_end0
  exact ⟨rfl, Below.refl _ _⟩
set_option maxHeartbeats 4000000 in
set_option maxRecDepth 100000 in
theorem nil_Wake (w : World) : Calls Try.prog 15 #[.pointer none] w fun e w' => e = .returned (.tuple #[]) ∧ Below w.heap.size w w' := by
  go_enter Try.func15, Try.ntmps15
  go_wp2
  go_end0
  exact ⟨rfl, Below.refl _ _⟩
set_option maxHeartbeats 4000000 in
set_option maxRecDepth 100000 in
theorem nil_Stopped (w : World) : Calls Try.prog 13 #[.pointer none] w fun e w' => e = .returned (.bool false) ∧ Below w.heap.size w w' := by
  go_enter Try.func13, Try.ntmps13
  go_wp2
  go_ret
  exact ⟨rfl, Below.refl _ _⟩
set_option maxHeartbeats 4000000 in
set_option maxRecDepth 100000 in
theorem nil_Len (w : World) : Calls Try.prog 16 #[.pointer none] w fun e w' => e = .returned (.int .i64 0) ∧ Below w.heap.size w w' := by
  go_enter Try.func16, Try.ntmps16
  go_wp2
  go_ret
  exact ⟨rfl, Below.refl _ _⟩
set_option maxHeartbeats 4000000 in
set_option maxRecDepth 100000 in
theorem nil_All (w : World) : Calls Try.prog 17 #[.pointer none] w fun e w' => e = .returned (.slice none 0 0) ∧ Below w.heap.size w w' := by
  go_enter Try.func17, Try.ntmps17
  go_wp2
  go_ret
  exact ⟨rfl, Below.refl _ _⟩
set_option maxHeartbeats 4000000 in
set_option maxRecDepth 100000 in
theorem nil_Flush (w : World) : Calls Try.prog 22 #[.pointer none] w fun e w' => e = .returned (.int .i64 0) ∧ Below w.heap.size w w' := by
  go_enter Try.func22, Try.ntmps22
  go_wp2_with fail
  refine (nil_Len w).mono ?_
  rintro e w1 ⟨rfl, hb⟩
  go_wp2_with fail
  go_ret
  exact ⟨rfl, hb⟩
set_option maxHeartbeats 4000000 in
set_option maxRecDepth 100000 in
theorem nil_Put (n : Int) (p : Pk) (w : World) : Calls Try.prog 10 #[.pointer none, .int .i64 n, pkV p] w fun e w' => e = .returned (.int .i64 1) ∧ Below w.heap.size w w' := by
  unfold pkV
  go_enter Try.func10, Try.ntmps10
  go_wp2
  go_ret
  exact ⟨rfl, below_alloc (Below.refl _ _) _⟩
set_option maxHeartbeats 4000000 in
set_option maxRecDepth 100000 in
theorem nil_Take (w : World) : Calls Try.prog 12 #[.pointer none] w fun e w' => e = .returned (.tuple #[pkV pkZ, .int .i64 1]) ∧ Below w.heap.size w w' := by
  unfold pkV pkZ z31 z29
  have hu := Try.underlying31
  go_enter Try.func12, Try.ntmps12
  go_upto_region 1 with (fail)
  obtain ⟨D, hD⟩ : ∃ D, D = w.heap.size := ⟨_, rfl⟩
  rw [← hD]
  refine wp_world (fun W => W.heap[D]? = some (.cells #[.int .i64 0, .int .i64 0, .int .i64 0, .string ⟨#[]⟩, .int .i64 0, .int .i64 0, .bool false] 31 (0, 0)) ∧ Turn (fun _ => False) w W) ⟨by rw [hD]; exact blk_new _ _, (Turn.refl _ w).alloc _⟩ ?_
  rintro W1 ⟨hd, ht⟩
  have m0 : W1.cell? ⟨D, 0, none⟩ = some (.int .i64 0) := (blk_cell hd 0).trans rfl
  have m1 : W1.cell? ⟨D, 1, none⟩ = some (.int .i64 0) := (blk_cell hd 1).trans rfl
  have m2 : W1.cell? ⟨D, 2, none⟩ = some (.int .i64 0) := (blk_cell hd 2).trans rfl
  have m3 : W1.cell? ⟨D, 3, none⟩ = some (.string ⟨#[]⟩) := (blk_cell hd 3).trans rfl
  have m4 : W1.cell? ⟨D, 4, none⟩ = some (.int .i64 0) := (blk_cell hd 4).trans rfl
  have m5 : W1.cell? ⟨D, 5, none⟩ = some (.int .i64 0) := (blk_cell hd 5).trans rfl
  have m6 : W1.cell? ⟨D, 6, none⟩ = some (.bool false) := (blk_cell hd 6).trans rfl
  have z := fun j => blk_frozen hd j
  have hg := blk_set (blk_set (blk_set (blk_set (blk_set (blk_set (blk_set hd 0 (.int .i64 0)) 1 (.int .i64 0)) 2 (.int .i64 0)) 3 (.string ⟨#[]⟩)) 4 (.int .i64 0)) 5 (.int .i64 0)) 6 (.bool false)
  simp only [List.setIfInBounds_toArray, List.set_cons_zero, List.set_cons_succ] at hg
  have HG := Aside0.mk hg
  have T6 := ((((((((Turn.refl (fun k => k = D) W1).setCell (p := ⟨D, 0, none⟩) (.inl rfl) (.int .i64 0)).setCell (p := ⟨D, 1, none⟩) (.inl rfl) (.int .i64 0)).setCell (p := ⟨D, 2, none⟩) (.inl rfl) (.int .i64 0)).setCell (p := ⟨D, 3, none⟩) (.inl rfl) (.string ⟨#[]⟩)).setCell (p := ⟨D, 4, none⟩) (.inl rfl) (.int .i64 0)).setCell (p := ⟨D, 5, none⟩) (.inl rfl) (.int .i64 0)).setCell (p := ⟨D, 6, none⟩) (.inl rfl) (.bool false))
  have HE := Aside0.mk (((ht.mono (S2 := fun k => k = D) (fun k hk => hk.elim)).trans T6 (fun k hk => .inl hk)).shrink (fun k hk => by rw [hk, hD]; exact Nat.le_refl _)).to_below
  clear hd ht hD hg T6
  go_wp2_with fail
  refine bodyPost_ret (results_ct1 (by rfl) _ _ D 31 #[.int .i64 0, .int .i64 0, .int .i64 0, .string ⟨#[]⟩, .int .i64 0, .int .i64 0, .bool false] (0, 0) _ (by rfl) HG.out hu (by rfl) (by kernel_rfl)) rfl ?_
  exact ⟨rfl, HE.out⟩
attribute [local go_sem high] eqA31
set_option maxHeartbeats 8000000 in
set_option maxRecDepth 100000 in
theorem bandnil_law (n : Int) (p : Pk) (w : World) : Calls Try.prog 6 #[.int .i64 n, pkV p] w fun e w' => e = .returned (.bool true) ∧ Below w.heap.size w w' := by
  have hu := Try.underlying31
  unfold pkV
  go_enter Try.func6, Try.ntmps6
  go_upto_region 2 with (fail)
  obtain ⟨C, hC⟩ : ∃ C, C = w.heap.size := ⟨_, rfl⟩
  rw [← hC]
  refine wp_world (fun W => W.heap[C]? = some (.cells #[.int .i64 p.f0.f0, .int .i64 p.f0.f1, .int .i64 p.f0.f2, .string p.f0.f3, .int .i64 p.f1, .int .i64 p.f2, .bool p.f3] 31 (0, 0)) ∧ Below w.heap.size w W) ⟨by rw [hC]; exact blk_new _ _, below_alloc (Below.refl _ _) _⟩ ?_
  rintro W0 ⟨hc, hb0⟩
  have HC := Aside0.mk hc
  have HB0 := Aside0.mk hb0
  clear hc hb0 hC
  go_wp2_with fail
  refine (nil_Stop _).mono ?_
  rintro e w1 ⟨rfl, hb⟩
  have HB1 := Aside0.mk (HB0.out.trans (hb.mono HB0.out.size))
  have HC1 := Aside0.mk ((Turn.of_below hb (fun _ => False)).blk HC.out (fun x => x))
  clear hb HB0 HC
  go_wp2_with fail
  refine (nil_Wake _).mono ?_
  rintro e w2 ⟨rfl, hb⟩
  have HB2 := Aside0.mk (HB1.out.trans (hb.mono HB1.out.size))
  have HC2 := Aside0.mk ((Turn.of_below hb (fun _ => False)).blk HC1.out (fun x => x))
  clear hb HB1 HC1
  go_wp2_with fail
  refine (nil_Take _).mono ?_
  rintro e w3 ⟨rfl, hb⟩
  have HB3 := Aside0.mk (HB2.out.trans (hb.mono HB2.out.size))
  have HC3 := Aside0.mk ((Turn.of_below hb (fun _ => False)).blk HC2.out (fun x => x))
  clear hb HB2 HC2
  unfold pkV pkZ z31 z29
  go_upto_region 5 with (fail)
  obtain ⟨D, hD⟩ : ∃ D, D = w3.heap.size := ⟨_, rfl⟩
  rw [← hD]
  refine wp_world (fun W => W.heap[C]? = some (.cells #[.int .i64 p.f0.f0, .int .i64 p.f0.f1, .int .i64 p.f0.f2, .string p.f0.f3, .int .i64 p.f1, .int .i64 p.f2, .bool p.f3] 31 (0, 0)) ∧ W.heap[D]? = some (.cells #[.int .i64 0, .int .i64 0, .int .i64 0, .string ⟨#[]⟩, .int .i64 0, .int .i64 0, .bool false] 31 (0, 0)) ∧ Below w.heap.size w W) ⟨((Turn.refl (fun _ => False) w3).alloc _).blk HC3.out (fun x => x), by rw [hD]; exact blk_new _ _, below_alloc HB3.out _⟩ ?_
  rintro W3 ⟨hc, hd, hb⟩
  have HB3' := Aside0.mk hb
  have HD3 := Aside0.mk hd
  have c0 : W3.cell? ⟨C, 0, none⟩ = some (.int .i64 p.f0.f0) := (blk_cell hc 0).trans rfl
  have c1 : W3.cell? ⟨C, 1, none⟩ = some (.int .i64 p.f0.f1) := (blk_cell hc 1).trans rfl
  have c2 : W3.cell? ⟨C, 2, none⟩ = some (.int .i64 p.f0.f2) := (blk_cell hc 2).trans rfl
  have c3 : W3.cell? ⟨C, 3, none⟩ = some (.string p.f0.f3) := (blk_cell hc 3).trans rfl
  have c4 : W3.cell? ⟨C, 4, none⟩ = some (.int .i64 p.f1) := (blk_cell hc 4).trans rfl
  have c5 : W3.cell? ⟨C, 5, none⟩ = some (.int .i64 p.f2) := (blk_cell hc 5).trans rfl
  have c6 : W3.cell? ⟨C, 6, none⟩ = some (.bool p.f3) := (blk_cell hc 6).trans rfl
  clear HB3 HC3 hc hd hb hD
  have HB3 := HB3'
  clear HB3'
  go_wp2_with fail
  refine (nil_Put n p _).mono ?_
  rintro e w4 ⟨rfl, hb⟩
  have HB4 := Aside0.mk (HB3.out.trans (hb.mono HB3.out.size))
  have hd := (Turn.of_below hb (fun _ => False)).blk HD3.out (fun x => x)
  have m0 : w4.cell? ⟨D, 0, none⟩ = some (.int .i64 0) := (blk_cell hd 0).trans rfl
  have m1 : w4.cell? ⟨D, 1, none⟩ = some (.int .i64 0) := (blk_cell hd 1).trans rfl
  have m2 : w4.cell? ⟨D, 2, none⟩ = some (.int .i64 0) := (blk_cell hd 2).trans rfl
  have m3 : w4.cell? ⟨D, 3, none⟩ = some (.string ⟨#[]⟩) := (blk_cell hd 3).trans rfl
  have m4 : w4.cell? ⟨D, 4, none⟩ = some (.int .i64 0) := (blk_cell hd 4).trans rfl
  have m5 : w4.cell? ⟨D, 5, none⟩ = some (.int .i64 0) := (blk_cell hd 5).trans rfl
  have m6 : w4.cell? ⟨D, 6, none⟩ = some (.bool false) := (blk_cell hd 6).trans rfl
  clear hb HB3 HD3 hd
  go_wp2_with fail
  refine (nil_Stopped _).mono ?_
  rintro e w5 ⟨rfl, hb⟩
  have HB5 := Aside0.mk (below_step (by repeat (first | (with_reducible first | exact HB4.out | apply below_alloc | apply pw_below_drewN | apply below_drew1) | exact HB4.out)) hb)
  clear hb HB4
  go_wp2_with fail
  refine (nil_Len _).mono ?_
  rintro e w6 ⟨rfl, hb⟩
  have HB6 := Aside0.mk (below_step (by repeat (first | (with_reducible first | exact HB5.out | apply below_alloc | apply pw_below_drewN | apply below_drew1) | exact HB5.out)) hb)
  clear hb HB5
  go_wp2_with fail
  refine (nil_All _).mono ?_
  rintro e w7 ⟨rfl, hb⟩
  have HB7 := Aside0.mk (below_step (by repeat (first | (with_reducible first | exact HB6.out | apply below_alloc | apply pw_below_drewN | apply below_drew1) | exact HB6.out)) hb)
  clear hb HB6
  go_wp2_with fail
  refine (nil_Flush _).mono ?_
  rintro e w8 ⟨rfl, hb⟩
  have HB8 := Aside0.mk (below_step (by repeat (first | (with_reducible first | exact HB7.out | apply below_alloc | apply pw_below_drewN | apply below_drew1) | exact HB7.out)) hb)
  clear hb HB7
  go_wp2_with fail
  refine (alive15 _).mono ?_
  rintro e w9 ⟨rfl, hb⟩
  have HB9 := Aside0.mk (below_step (by repeat (first | (with_reducible first | exact HB8.out | apply below_alloc | apply pw_below_drewN | apply below_drew1) | exact HB8.out)) hb)
  clear hb HB8
  go_wp2_with fail
  go_ret
  exact ⟨rfl, HB9.out⟩
end Go.Proofs.Ytkmhdibabdifbaa.P
