/- The chapter's example holds; a clock that is none; no conditions. -/
import Derived.Test.YtbmommikjiikaaaGClockTwo
import Derived.Test.YtbmommikjiikaaaGClockInts
import Derived.Test.YtbmommikjiikaaaGClockNil
namespace Go.Proofs.Ytbmommikjiikaaa.P
open Go.RowKit Go.Proofs.YtbmommikjiikaaaW.PrintWords Go.Proofs.YtbmommikjiikaaaW.PrintLast Go.Proofs.YtbmommikjiikaaaW.PrintMore
set_option linter.unusedVariables false
set_option linter.unusedSimpArgs false

theorem row_nil {α : Type} {d : Kd α} {e : Nat} {w : World} {v : Value} {xs : List α} (h : RowX d e w v xs) (hn : xs = []) : ∃ A c, v = .slice A 0 c := by
  obtain ⟨A, c, rfl, _, _⟩ := h.reads
  rw [hn]
  exact ⟨A, c, rfl⟩
theorem C_one (w : World) (x : Int) (t : TypeId) : Kd.C (Kd.int .i64) (w.alloc (.cells #[.int .i64 x] t (0, 0))) (some ⟨w.heap.size, 0, none⟩) 1 [x] := by
  refine Kd.C_of_reads (d := (0 : Int)) (h1 := fun _ => rfl) ⟨rfl, by decide, fun hn => ⟨_, rfl, fun j hj => ?_⟩⟩
  obtain rfl : j = 0 := by omega
  exact (blk_cell (blk_new w _) 0).trans rfl
set_option maxHeartbeats 8000000 in
set_option maxRecDepth 100000 in
theorem alive21 (w : World) : Calls Try.prog 8 #[] w fun e w' => e = .returned (.bool true) ∧ Below w.heap.size w w' := by
  go_enter Try.func8, Try.ntmps8
  go_wp2_with fail
  refine (two_New nought_framed (Two.start w)).mono ?_
  rintro e w1 ⟨g, rfl, H, _⟩
  have H1 := Aside0.mk H
  clear H
  go_wp2_with fail
  refine (two_Set nought_framed H1.out (key := 7) (d := 2) (by decide) (by decide) (by decide) COk.c0 (.inr (by decide))).mono ?_
  rintro e w2 ⟨rfl, H, _⟩
  have H2 := Aside0.mk H
  have K2 := Aside0.mk (COk.c0.set (key := 7) (d := 2) (by decide) (by decide) (by decide) (by decide) (.inr (by decide)))
  clear H H1
  go_wp2_with fail
  refine (two_Tick nought_framed H2.out K2.out (by decide)).mono ?_
  rintro e w3 ⟨v3, rfl, hx, H, _⟩
  obtain ⟨A3, c3, rfl⟩ := row_nil hx (by decide)
  have H3 := Aside0.mk H
  have K3 := Aside0.mk (K2.out.tick (by decide))
  clear H H2 hx
  go_wp2_with fail
  refine (two_Tick nought_framed H3.out K3.out (by decide)).mono ?_
  rintro e w4 ⟨v4, rfl, hx, H, _⟩
  obtain ⟨A4, c4, rfl, hc4, hC4⟩ := (show RowX (Kd.int .i64) 3 w4 v4 [7] from hx).reads
  have H4 := Aside0.mk H
  have HC := Aside0.mk hC4
  have Hc := Aside0.mk hc4
  have HB4 := Aside0.mk (Two.quiet (cf _ _) nought_framed H (below_alloc (Below.refl _ _) (.cells #[.int .i64 7] 3 (0, 0))))
  clear H H3 hx hc4 hC4
  go_wp2_with fail
  refine (ints_calls (l := [7]) (Kd.C_below HC.out (below_alloc (Below.refl _ _) _)) Hc.out (C_one w4 7 _) (by decide) (by decide)).mono ?_
  rintro e w5 ⟨rfl, hb⟩
  have H5 := Aside0.mk (Two.quiet (cf _ _) nought_framed HB4.out hb)
  clear hb HB4
  go_wp2_with fail
  refine (two_Now H5.out).mono ?_
  rintro e w6 ⟨rfl, rfl⟩
  go_wp2_with fail
  refine (two_Len H5.out).mono ?_
  rintro e w7 ⟨rfl, rfl⟩
  go_wp2_with fail
  go_ret
  exact ⟨rfl, H5.out.below⟩
end Go.Proofs.Ytbmommikjiikaaa.P
