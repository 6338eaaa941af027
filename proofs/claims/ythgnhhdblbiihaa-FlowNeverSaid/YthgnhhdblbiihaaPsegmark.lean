/- Printed for this claim by a program of the session (wip/gp.py, which drives the kit's printer): a Go function as a plain Lean function, and that its call answers it, wherever that function answers; no other conditions. -/
import Derived.Test.YthgnhhdblbiihaaP0
namespace Go.Proofs.Ythgnhhdblbiihaa.P
open Go.RowKit Go.Proofs.YthgnhhdblbiihaaW.PrintWords Go.Proofs.YthgnhhdblbiihaaW.PrintLast Go.Proofs.YthgnhhdblbiihaaW.PrintMore
attribute [local go_sem] max2_int min2_int max_two min_two max_three min_three max_four min_four   -- for this text's walks alone
set_option linter.unusedVariables false
set_option linter.unusedSimpArgs false

/-! ### seg_mark: function 63 -/
def seg_mark.f (a0 : Int) (a1 : Int) : Option (ByteArray) := some (strOfNums (([(Go.bits .or .i64 (wrap64 (a0 * 16)) a1) % 256] : List Int)))
set_option maxHeartbeats 8000000 in
set_option maxRecDepth 100000 in
theorem seg_mark.calls (a0 : Int) (a1 : Int) (r : ByteArray) (w : World) (h : seg_mark.f a0 a1 = some r) :
    Calls Try.prog 63 #[.int .i64 a0, .int .i64 a1] w fun e w' => e = .returned (.string r) ∧ Below w.heap.size w w' := by
  have HB := Aside0.mk (Below.refl w.heap.size w)
  have H : (some (strOfNums (([(Go.bits .or .i64 (wrap64 (a0 * 16)) a1) % 256] : List Int)))) = some r := h
  clear h
  obtain ⟨y404, hy404⟩ : ∃ y_ : List Int, y_ = (([(Go.bits .or .i64 (wrap64 (a0 * 16)) a1) % 256] : List Int)) := ⟨_, rfl⟩
  replace H : (some (strOfNums y404)) = some r := by first | (rw [hy404]; with_reducible exact H) | (have H2_ := (Option.bind_some _ _).symm.trans H; rw [hy404]; with_reducible exact H2_) | (have H2_ := (Option.bind_some _ _).symm.trans H; with_reducible exact H2_) | with_reducible exact H | (rw [hy404]; exact H) | exact H
  have Ny404 := Aside0.mk hy404
  clear hy404
  obtain rfl := Option.some.inj H
  go_enter Try.func63, Try.ntmps63
  go_wp2_with (first | ((with_reducible refine gate_dst (N := 10) rfl ?_); refine Kd.R_lit (Kd.int .u8) _ 5 ?hg (N := 10) ?hd (xs := ([(Go.bits .or .i64 (wrap64 (a0 * 16)) a1) % 256] : List Int)) (inner := [.int .u8 ((Go.bits .or .i64 (wrap64 (a0 * 16)) a1) % 256)]) (ok := fun _ => True) (okp := fun _ => True) ?hr ?hp (fun _ hk => hk) trivial (Below.refl _ _) (Nat.le_refl _) (by simp) ?_; (case hd => rfl); (case hg => rfl); (case hr => first | (go_simp; done) | (go_simp; rfl)); (case hp => exact (Reps.one (show Kd.M (Kd.int .u8) _ _ _ ((Go.bits .or .i64 (wrap64 (a0 * 16)) a1) % 256) [.int .u8 ((Go.bits .or .i64 (wrap64 (a0 * 16)) a1) % 256)] from rfl) (Reps.none _ _))); intro v405 w3 ho4 hb hg_ hnew_; clear hg_ hnew_; (first | rw [← Ny404.out] at ho4 | (simp only [Int.reduceToNat] at ho4; rw [← Ny404.out] at ho4)); have n0_ := Aside0.mk (Kd.R_lower ho4 (below_size (by repeat (first | (with_reducible first | exact HB.out | apply below_alloc | apply pw_below_drewN | apply below_drew1) | exact HB.out)))); have n1_ := Aside0.mk (below_step (by repeat (first | (with_reducible first | exact HB.out | apply below_alloc | apply pw_below_drewN | apply below_drew1) | exact HB.out)) hb); clear HB; have HO406 := n0_; have HB := n1_; clear n0_ n1_; clear hb ho4; have hcv5 := own_string (P := Try.prog) Try.underlying29 Try.underlying5 Try.underlying9 (Kd.own_of_R HO406.out)))
  go_ret
  exact ⟨by first | rfl | (simp [errW_none, errW_some] <;> rfl) | (simp [*, errW_none, errW_some] <;> rfl), by repeat (first | (with_reducible first | exact HB.out | apply below_alloc | apply pw_below_drewN | apply below_drew1) | exact HB.out)⟩

end Go.Proofs.Ythgnhhdblbiihaa.P
