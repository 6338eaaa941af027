/- The example of layer 11, and what a row that is none tells. -/
import Derived.Test.YtfdandgcnocklaaGRingI
namespace Go.Proofs.Ytfdandgcnocklaa.P
open Go.RowKit Go.Proofs.YtfdandgcnocklaaW.PrintWords Go.Proofs.YtfdandgcnocklaaW.PrintLast Go.Proofs.YtfdandgcnocklaaW.PrintMore
set_option linter.unusedVariables false
set_option linter.unusedSimpArgs false

set_option maxHeartbeats 8000000 in
set_option maxRecDepth 100000 in
theorem alive11 (w : World) : Calls Try.prog 7 #[] w fun e w' => e = .returned (.bool true) ∧ Below w.heap.size w w' := by
  go_enter Try.func7, Try.ntmps7
  go_wp2_with fail
  refine (ring_NewI.calls 1 w).mono ?_
  rintro e w1 ⟨g, b, rfl, hR, hB⟩
  have HR : Aside0 (RingI w1 w.heap.size g b 1 [] 0) := ⟨hR⟩
  have HB := Aside0.mk hB
  clear hR hB
  go_wp2_with fail
  refine (ring_PutI.calls (w0 := w) 7 HR.out HB.out).mono ?_
  rintro e w2 ⟨rfl, hR, hB, hk⟩
  have HR : Aside0 (RingI w2 w.heap.size g b 1 [7] 0) := ⟨hR⟩
  have HB := Aside0.mk hB
  clear hR hB hk
  go_wp2_with fail
  refine (ring_PutI.calls (w0 := w) 8 HR.out HB.out).mono ?_
  rintro e w3 ⟨rfl, hR, hB, hk⟩
  have HR : Aside0 (RingI w3 w.heap.size g b 1 [7] 1) := ⟨by have := hR; rw [if_neg (by decide), if_neg (by decide), w64_small _ (by decide) (by decide)] at this; exact this⟩
  have HB := Aside0.mk hB
  clear hR hB hk
  go_wp2_with fail
  refine (ring_TakeI.calls (w0 := w) HR.out HB.out).mono ?_
  rintro e w4 ⟨rfl, hR, hB, hk⟩
  have HR : Aside0 (RingI w4 w.heap.size g b 1 [] 1) := ⟨hR⟩
  have HB := Aside0.mk hB
  clear hR hB hk
  go_wp2_with fail
  refine (ring_TakeI.calls (w0 := w) HR.out HB.out).mono ?_
  rintro e w5 ⟨rfl, hR, hB, hk⟩
  have HR : Aside0 (RingI w5 w.heap.size g b 1 [] 1) := ⟨hR⟩
  have HB := Aside0.mk hB
  clear hR hB hk
  go_wp2_with fail
  refine (ring_LostI.calls HR.out).mono ?_
  rintro e w6 ⟨rfl, hb⟩
  have HR : Aside0 (RingI w6 w.heap.size g b 1 [] 1) := ⟨HR.out.below hb⟩
  have HB := Aside0.mk (HB.out.trans (hb.mono HB.out.size))
  clear hb
  go_wp2_with fail
  refine (ring_RoomI.calls HR.out).mono ?_
  rintro e w7 ⟨rfl, hb⟩
  have HB := Aside0.mk (HB.out.trans (hb.mono HB.out.size))
  clear hb
  go_wp2_with fail
  go_ret
  exact ⟨rfl, HB.out⟩

set_option maxHeartbeats 8000000 in
set_option maxRecDepth 100000 in
theorem ring_nil_law (x : Int) (w : World) : Calls Try.prog 6 #[.int .i64 x] w fun e w' => e = .returned (.bool true) ∧ Below w.heap.size w w' := by
  have hw0 : wrap64 0 = 0 := w64_small 0 (by decide) (by decide)
  go_enter Try.func6, Try.ntmps6
  go_wp2_with fail
  refine (ring_TakeI.nil w).mono ?_
  rintro e w1 ⟨rfl, hb⟩
  have HB := Aside0.mk hb
  clear hb
  go_wp2_with fail
  refine (ring_PeekI.nil w1).mono ?_
  rintro e w2 ⟨rfl, hb⟩
  have HB := Aside0.mk (HB.out.trans (hb.mono HB.out.size))
  clear hb
  go_wp2_with fail
  refine (ring_LenI.nil w2).mono ?_
  rintro e w3 ⟨rfl, hb⟩
  have HB := Aside0.mk (HB.out.trans (hb.mono HB.out.size))
  clear hb
  go_wp2_with fail
  refine (ring_RoomI.nil w3).mono ?_
  rintro e w4 ⟨rfl, hb⟩
  have HB := Aside0.mk (HB.out.trans (hb.mono HB.out.size))
  clear hb
  go_wp2_with fail
  refine (ring_LostI.nil w4).mono ?_
  rintro e w5 ⟨rfl, hb⟩
  have HB := Aside0.mk (HB.out.trans (hb.mono HB.out.size))
  clear hb
  go_wp2_with fail
  refine (ring_ClearI.nil w5).mono ?_
  rintro e w6 ⟨rfl, hb⟩
  have HB := Aside0.mk (HB.out.trans (hb.mono HB.out.size))
  clear hb
  go_wp2_with fail
  refine (ring_AllI.nil w6).mono ?_
  rintro e w7 ⟨rfl, hb⟩
  have HB := Aside0.mk (HB.out.trans (hb.mono HB.out.size))
  clear hb
  go_wp2_with fail
  refine (ring_PutI.nil x w7).mono ?_
  rintro e w8 ⟨rfl, hb⟩
  have HB := Aside0.mk (HB.out.trans (hb.mono HB.out.size))
  clear hb
  go_wp2_with fail
  refine (alive11 w8).mono ?_
  rintro e w9 ⟨rfl, hb⟩
  go_wp2_with fail
  go_ret
  exact ⟨rfl, HB.out.trans (hb.mono HB.out.size)⟩
end Go.Proofs.Ytfdandgcnocklaa.P
