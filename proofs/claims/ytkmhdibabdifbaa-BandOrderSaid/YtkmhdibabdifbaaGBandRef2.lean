/- The document's bands of packets: Put, Take, All; no conditions. -/
import Derived.Test.YtkmhdibabdifbaaGBandRef
namespace Go.Proofs.Ytkmhdibabdifbaa.P
open Go.RowKit Go.Maps Go.Proofs.YtkmhdibabdifbaaW.PrintWords Go.Proofs.YtkmhdibabdifbaaW.PrintLast Go.Proofs.YtkmhdibabdifbaaW.PrintMore
set_option linter.unusedVariables false
set_option linter.unusedSimpArgs false


def mkOne (b : Int) (p : Pk) : One1 := ⟨b, p⟩
def rput (r : RQv) (cl : Int) (p : Pk) : RQv := { r with L := r.L ++ [mkOne cl p] }
def atR (bands band : Int) : Int := if (if band < 0 then 0 else band) ≥ bands then bands - 1 else (if band < 0 then 0 else band)
theorem info61' : (Try.prog.info? 61).map (fun i => (i.zero, i.size, i.bytes)) = some (some (.agg #[(.int .i64 0), (.int .i64 0), (.int .i64 0), (.int .i64 0), (.string ⟨#[]⟩), (.int .i64 0), (.int .i64 0), (.bool false)]), 8, 72) := by kernel_rfl
attribute [local go_sem] max2_int min2_int max_two min_two
set_option maxHeartbeats 8000000 in
set_option maxRecDepth 100000 in
theorem ref_Put_full {w : World} {h : Nat} {r : RQv} {S : Nat → Prop} (band : Int) (p : Pk) (H : IsRef w h r S) (hf : (r.L.length : Int) = r.room) :
    Calls Try.prog 20 #[.pointer (some ⟨h, 0, none⟩), .int .i64 band, pkV p] w fun e w' => e = .returned (.int .i64 5) ∧ IsRef w' h r S ∧ Turn S w w' := by
  obtain ⟨v, H⟩ := H
  have HI := Aside0.mk H
  have e1 : ((r.L.length : Int) == r.room) = true := beq_iff_eq.mpr hf
  clear H hf
  unfold pkV
  go_enter Try.func20, Try.ntmps20
  go_upto_region 1 with (fail)
  refine wp_world (fun W => RefI W h v r S ∧ Turn S w W) ⟨HI.out.turn ((Turn.refl (fun _ => False) w).alloc _) (fun _ _ x => x), (Turn.refl S w).alloc _⟩ ?_
  rintro W1 ⟨hI, ht⟩
  have H1 := Aside0.mk hI
  have HT := Aside0.mk ht
  obtain ⟨A, c, hv, hc, hC⟩ := hI.row.reads
  have c0 := hI.c0
  rw [hv] at c0
  have c2 := hI.c2
  clear hI ht HI hC hc
  refine start_ (n := 10) (S := fun w' => w'.cell? ⟨h, 0, none⟩ = some (.slice A r.L.length c) ∧ w'.cell? ⟨h, 2, none⟩ = some (.int .i64 r.room)) (ds := []) #[false, false, false, false, false, false, false, false, false, false] (by kernel_rfl) rfl rfl ⟨c0, c2⟩ (fun hHeld => ?_)
  refine pure_ (i := 0) (N := some 8) (v := ?_) (a' := ?_) #[true, false, false, false, false, false, false, false, false, false] rfl rfl (by kernel_rfl) (fun _ _ _ h => h) (Or.inl ⟨by rfl, ?_⟩) ?_ ?_
  rotate_left
  · intro w'
    go_simp
    with_reducible rfl
  rotate_left
  · simp only [Act.put, List.setIfInBounds_toArray, List.set_cons_zero, List.set_cons_succ, i64_w, i32_w]
    rfl
  refine pure_ (i := 1) (N := some 9) (v := ?_) (a' := ?_) #[true, true, false, false, false, false, false, false, false, false] rfl rfl (by kernel_rfl) (fun _ _ _ h => h) (Or.inl ⟨by rfl, ?_⟩) ?_ ?_
  rotate_left
  · intro w'
    go_simp
    with_reducible rfl
  rotate_left
  · simp only [Act.put, List.setIfInBounds_toArray, List.set_cons_zero, List.set_cons_succ, i64_w, i32_w]
    rfl
  refine pure_ (i := 2) (N := some 10) (v := ?_) (a' := ?_) #[true, true, true, false, false, false, false, false, false, false] rfl rfl (by kernel_rfl) (fun _ _ _ h => h) (Or.inl ⟨by rfl, ?_⟩) ?_ ?_
  rotate_left
  · intro w'
    go_simp
    with_reducible rfl
  rotate_left
  · simp only [Act.put, List.setIfInBounds_toArray, List.set_cons_zero, List.set_cons_succ, i64_w, i32_w]
    rfl
  refine pure_ (i := 5) (N := some 13) (v := ?_) (a' := ?_) #[true, true, true, false, false, true, false, false, false, false] rfl rfl (by kernel_rfl) (fun _ _ _ h => h) (Or.inl ⟨by rfl, ?_⟩) ?_ ?_
  rotate_left
  · intro w'
    go_simp
    with_reducible rfl
  rotate_left
  · simp only [Act.put, List.setIfInBounds_toArray, List.set_cons_zero, List.set_cons_succ, i64_w, i32_w]
    rfl
  refine pure_ (i := 6) (N := some 14) (v := ?_) (a' := ?_) #[true, true, true, false, false, true, true, false, false, false] rfl rfl (by kernel_rfl) (fun _ _ _ h => h) (Or.inl ⟨by rfl, ?_⟩) ?_ ?_
  rotate_left
  · intro w'
    go_simp
    with_reducible rfl
  rotate_left
  · simp only [Act.put, List.setIfInBounds_toArray, List.set_cons_zero, List.set_cons_succ, i64_w, i32_w]
    rfl
  refine pure_ (i := 7) (N := some 15) (v := ?_) (a' := ?_) #[true, true, true, false, false, true, true, true, false, false] rfl rfl (by kernel_rfl) (fun _ _ _ h => h) (Or.inl ⟨by rfl, ?_⟩) ?_ ?_
  rotate_left
  · intro w'
    go_simp
    with_reducible rfl
  rotate_left
  · simp only [Act.put, List.setIfInBounds_toArray, List.set_cons_zero, List.set_cons_succ, i64_w, i32_w]
    rfl
  refine take_ (i := 3) (N := some 11) (v := ?_) (a' := ?_) #[true, true, true, true, false, true, true, true, false, false] rfl rfl (by kernel_rfl) (fun _ _ _ h => h) (Or.inl ⟨by rfl, ?_⟩) hHeld ?_ ?_
  rotate_left
  · rintro w' ⟨s0, s1⟩
    go_simp
    with_reducible rfl
  rotate_left
  · simp only [Act.put, List.setIfInBounds_toArray, List.set_cons_zero, List.set_cons_succ, i64_w, i32_w]
    rfl
  refine pure_ (i := 4) (N := some 12) (v := ?_) (a' := ?_) #[true, true, true, true, true, true, true, true, false, false] rfl rfl (by kernel_rfl) (fun _ _ _ h => h) (Or.inl ⟨by rfl, ?_⟩) ?_ ?_
  rotate_left
  · intro w'
    go_simp
    with_reducible rfl
  rotate_left
  · simp only [Act.put, List.setIfInBounds_toArray, List.set_cons_zero, List.set_cons_succ, i64_w, i32_w]
    rfl
  refine take_ (i := 8) (N := some 16) (v := ?_) (a' := ?_) #[true, true, true, true, true, true, true, true, true, false] rfl rfl (by kernel_rfl) (fun _ _ _ h => h) (Or.inl ⟨by rfl, ?_⟩) hHeld ?_ ?_
  rotate_left
  · rintro w' ⟨s0, s1⟩
    go_simp
    with_reducible rfl
  rotate_left
  · simp only [Act.put, List.setIfInBounds_toArray, List.set_cons_zero, List.set_cons_succ, i64_w, i32_w]
    rfl
  refine pure_ (i := 9) (N := some 17) (v := ?_) (a' := ?_) #[true, true, true, true, true, true, true, true, true, true] rfl rfl (by kernel_rfl) (fun _ _ _ h => h) (Or.inl ⟨by rfl, ?_⟩) ?_ ?_
  rotate_left
  · intro w'
    go_simp
    with_reducible rfl
  rotate_left
  · simp only [Act.put, List.setIfInBounds_toArray, List.set_cons_zero, List.set_cons_succ, i64_w, i32_w]
    rfl
  refine done_ (by kernel_rfl) ?_
  go_wp2_with fail
  go_ret
  exact ⟨rfl, ⟨v, H1.out.turn ((Turn.refl (fun _ => False) _).drew) (fun _ _ x => x)⟩, HT.out.drew⟩
set_option maxHeartbeats 8000000 in
set_option maxRecDepth 100000 in
theorem ref_Put {w : World} {h : Nat} {r : RQv} {S : Nat → Prop} (band : Int) (p : Pk) (H : IsRef w h r S) (hf : (r.L.length : Int) ≠ r.room) (hl : r.L.length ≤ 1000000) (hb0 : 1 ≤ r.bands) (hb1 : r.bands ≤ 1000) :
    Calls Try.prog 20 #[.pointer (some ⟨h, 0, none⟩), .int .i64 band, pkV p] w fun e w' => e = .returned (.int .i64 0) ∧ ∃ S', IsRef w' h (rput r (atR r.bands band) p) S' ∧ Turn S w w' ∧ (∀ k, S' k → S k ∨ w.heap.size ≤ k) := by
  obtain ⟨v, H⟩ := H
  have HI := Aside0.mk H
  have e1 : ((r.L.length : Int) == r.room) = false := beq_eq_false_iff_ne.mpr hf
  have hw : wrap64 (r.bands - 1) = r.bands - 1 := w64_small _ (by omega) (by omega)
  obtain ⟨cl, hcl⟩ : ∃ cl, cl = atR r.bands band := ⟨_, rfl⟩
  rw [← hcl]
  have HCL := Aside0.mk hcl
  clear H hf hcl
  unfold pkV rput
  go_enter Try.func20, Try.ntmps20
  go_upto_region 1 with (fail)
  obtain ⟨C, hC⟩ : ∃ C, C = w.heap.size := ⟨_, rfl⟩
  rw [← hC]
  refine wp_world (fun W => RefI W h v r S ∧ W.heap[C]? = some (.cells #[.int .i64 p.f0.f0, .int .i64 p.f0.f1, .int .i64 p.f0.f2, .string p.f0.f3, .int .i64 p.f1, .int .i64 p.f2, .bool p.f3] 31 (0, 0)) ∧ Turn S w W) ⟨HI.out.turn ((Turn.refl (fun _ => False) w).alloc _) (fun _ _ x => x), by rw [hC]; exact blk_new _ _, (Turn.refl S w).alloc _⟩ ?_
  rintro W1 ⟨hI, hcb, ht⟩
  have H1 := Aside0.mk (hI.turn ((Turn.refl (fun _ => False) W1).drew) (fun _ _ x => x))
  have HT := Aside0.mk ht.drew
  have HCb := Aside0.mk (show W1.drew.heap[C]? = some (.cells #[.int .i64 p.f0.f0, .int .i64 p.f0.f1, .int .i64 p.f0.f2, .string p.f0.f3, .int .i64 p.f1, .int .i64 p.f2, .bool p.f3] 31 (0, 0)) from hcb)
  have HCs := Aside0.mk (show ∀ k, S k → k ≠ C from fun k hk e => by have := HI.out.lt k hk; omega)
  obtain ⟨A, c, hv, hc, hCr⟩ := hI.row.reads
  have HCr := Aside0.mk (show Kd.C k61 W1.drew A r.L.length r.L from Kd.C_below hCr (Below.refl _ _).drew)
  have c0 := hI.c0
  rw [hv] at c0
  have c2 := hI.c2
  clear hI ht HI hCr hC hcb
  refine start_ (n := 10) (S := fun w' => w'.cell? ⟨h, 0, none⟩ = some (.slice A r.L.length c) ∧ w'.cell? ⟨h, 2, none⟩ = some (.int .i64 r.room)) (ds := []) #[false, false, false, false, false, false, false, false, false, false] (by kernel_rfl) rfl rfl ⟨c0, c2⟩ (fun hHeld => ?_)
  refine pure_ (i := 0) (N := some 8) (v := ?_) (a' := ?_) #[true, false, false, false, false, false, false, false, false, false] rfl rfl (by kernel_rfl) (fun _ _ _ h => h) (Or.inl ⟨by rfl, ?_⟩) ?_ ?_
  rotate_left
  · intro w'
    go_simp
    with_reducible rfl
  rotate_left
  · simp only [Act.put, List.setIfInBounds_toArray, List.set_cons_zero, List.set_cons_succ, i64_w, i32_w]
    rfl
  refine pure_ (i := 1) (N := some 9) (v := ?_) (a' := ?_) #[true, true, false, false, false, false, false, false, false, false] rfl rfl (by kernel_rfl) (fun _ _ _ h => h) (Or.inl ⟨by rfl, ?_⟩) ?_ ?_
  rotate_left
  · intro w'
    go_simp
    with_reducible rfl
  rotate_left
  · simp only [Act.put, List.setIfInBounds_toArray, List.set_cons_zero, List.set_cons_succ, i64_w, i32_w]
    rfl
  refine pure_ (i := 2) (N := some 10) (v := ?_) (a' := ?_) #[true, true, true, false, false, false, false, false, false, false] rfl rfl (by kernel_rfl) (fun _ _ _ h => h) (Or.inl ⟨by rfl, ?_⟩) ?_ ?_
  rotate_left
  · intro w'
    go_simp
    with_reducible rfl
  rotate_left
  · simp only [Act.put, List.setIfInBounds_toArray, List.set_cons_zero, List.set_cons_succ, i64_w, i32_w]
    rfl
  refine pure_ (i := 5) (N := some 13) (v := ?_) (a' := ?_) #[true, true, true, false, false, true, false, false, false, false] rfl rfl (by kernel_rfl) (fun _ _ _ h => h) (Or.inl ⟨by rfl, ?_⟩) ?_ ?_
  rotate_left
  · intro w'
    go_simp
    with_reducible rfl
  rotate_left
  · simp only [Act.put, List.setIfInBounds_toArray, List.set_cons_zero, List.set_cons_succ, i64_w, i32_w]
    rfl
  refine pure_ (i := 6) (N := some 14) (v := ?_) (a' := ?_) #[true, true, true, false, false, true, true, false, false, false] rfl rfl (by kernel_rfl) (fun _ _ _ h => h) (Or.inl ⟨by rfl, ?_⟩) ?_ ?_
  rotate_left
  · intro w'
    go_simp
    with_reducible rfl
  rotate_left
  · simp only [Act.put, List.setIfInBounds_toArray, List.set_cons_zero, List.set_cons_succ, i64_w, i32_w]
    rfl
  refine pure_ (i := 7) (N := some 15) (v := ?_) (a' := ?_) #[true, true, true, false, false, true, true, true, false, false] rfl rfl (by kernel_rfl) (fun _ _ _ h => h) (Or.inl ⟨by rfl, ?_⟩) ?_ ?_
  rotate_left
  · intro w'
    go_simp
    with_reducible rfl
  rotate_left
  · simp only [Act.put, List.setIfInBounds_toArray, List.set_cons_zero, List.set_cons_succ, i64_w, i32_w]
    rfl
  refine take_ (i := 3) (N := some 11) (v := ?_) (a' := ?_) #[true, true, true, true, false, true, true, true, false, false] rfl rfl (by kernel_rfl) (fun _ _ _ h => h) (Or.inl ⟨by rfl, ?_⟩) hHeld ?_ ?_
  rotate_left
  · rintro w' ⟨s0, s1⟩
    go_simp
    with_reducible rfl
  rotate_left
  · simp only [Act.put, List.setIfInBounds_toArray, List.set_cons_zero, List.set_cons_succ, i64_w, i32_w]
    rfl
  refine pure_ (i := 4) (N := some 12) (v := ?_) (a' := ?_) #[true, true, true, true, true, true, true, true, false, false] rfl rfl (by kernel_rfl) (fun _ _ _ h => h) (Or.inl ⟨by rfl, ?_⟩) ?_ ?_
  rotate_left
  · intro w'
    go_simp
    with_reducible rfl
  rotate_left
  · simp only [Act.put, List.setIfInBounds_toArray, List.set_cons_zero, List.set_cons_succ, i64_w, i32_w]
    rfl
  refine take_ (i := 8) (N := some 16) (v := ?_) (a' := ?_) #[true, true, true, true, true, true, true, true, true, false] rfl rfl (by kernel_rfl) (fun _ _ _ h => h) (Or.inl ⟨by rfl, ?_⟩) hHeld ?_ ?_
  rotate_left
  · rintro w' ⟨s0, s1⟩
    go_simp
    with_reducible rfl
  rotate_left
  · simp only [Act.put, List.setIfInBounds_toArray, List.set_cons_zero, List.set_cons_succ, i64_w, i32_w]
    rfl
  refine pure_ (i := 9) (N := some 17) (v := ?_) (a' := ?_) #[true, true, true, true, true, true, true, true, true, true] rfl rfl (by kernel_rfl) (fun _ _ _ h => h) (Or.inl ⟨by rfl, ?_⟩) ?_ ?_
  rotate_left
  · intro w'
    go_simp
    with_reducible rfl
  rotate_left
  · simp only [Act.put, List.setIfInBounds_toArray, List.set_cons_zero, List.set_cons_succ, i64_w, i32_w]
    rfl
  refine done_ (by kernel_rfl) ?_
  generalize W1.drew = W2 at *
  have c1 := H1.out.c1
  clear c0 c2
  simp only [Exit.then]
  apply_assumption
  refine wp_cond_false (by rfl) ?_
  refine wp_skip ?_
  simp only [Exit.then]
  apply_assumption
  apply wp_seq_k
  intro K2 hK2
  obtain ⟨b1, hb1e⟩ : ∃ b1, b1 = (if band < 0 then 0 else band) := ⟨_, rfl⟩
  go_cut [1] from 18 (fun v1 wc => v1 = .int .i64 b1 ∧ wc = W2)
  case first =>
    by_cases q1 : band < 0
    · have d1 : decide (band < 0) = true := decide_eq_true q1
      rw [if_pos q1] at hb1e
      clear q1
      go_wp2_with fail
      go_meet
      case rel => exact ⟨by rw [hb1e], rfl⟩
    · have d1 : decide (band < 0) = false := decide_eq_false q1
      rw [if_neg q1] at hb1e
      clear q1
      go_wp2_with fail
      go_meet
      case rel => exact ⟨by rw [hb1e], rfl⟩
  case rest =>
    obtain ⟨rfl, rfl⟩ := hcut
    have hx := HCL.out
    unfold atR at hx
    rw [← hb1e] at hx
    clear hb1e
    apply hK2
    apply wp_seq_k
    intro K3 hK3
    go_cut [1] from 18 (fun v1 wd => v1 = .int .i64 cl ∧ wd = wc)
    case first =>
      by_cases q2 : b1 ≥ r.bands
      · have d2 : decide (b1 ≥ r.bands) = true := decide_eq_true q2
        rw [if_pos q2] at hx
        clear q2
        go_wp2_with fail
        go_meet
        case rel => exact ⟨by rw [hx], rfl⟩
      · have d2 : decide (b1 ≥ r.bands) = false := decide_eq_false q2
        rw [if_neg q2] at hx
        clear q2
        go_wp2_with fail
        go_meet
        case rel => exact ⟨by rw [hx], rfl⟩
    case rest =>
      obtain ⟨rfl, rfl⟩ := hcut
      clear hx
      apply hK3
      have c0 := H1.out.c0
      rw [hv] at c0
      have ca0 : (wc.alloc (.cells #[] 61)).cell? ⟨h, 0, none⟩ = some (.slice A r.L.length c) := ((Turn.refl (fun _ => False) wc).alloc _).cell c0 (fun e => e)
      have HV := Aside0.mk hv
      clear c1 hHeld hv
      go_wp2_with (at_builtin; go_loud (refine Kd.R_append_rows k61 (Rr := k61.K wc) (w0 := wc) 0 rfl (.tmp 31) (.tmp 35) 51 61 (.agg #[(.int .i64 0), (.int .i64 0), (.int .i64 0), (.int .i64 0), (.string ⟨#[]⟩), (.int .i64 0), (.int .i64 0), (.bool false)]) 72 rfl Try.underlying51 info61' rfl (by decide) (by decide) (.slice (some ⟨wc.heap.size, 0, none⟩) 0 0) [] r.L A r.L.length c (fun k => wc.heap.size ≤ k) (fun _ => False) rfl rfl ?aO ?aR ?aM (fun _ hk => hk.elim) ?aF ?aB (Nat.zero_le _) ?aL ?_))
      case aO => exact R_empty _ _ _ _ _ (blk_new _ _) (Nat.zero_le _) (Nat.le_refl _)
      case aR => exact (Kd.C_below HCr.out (below_alloc (Below.refl _ _) _))
      case aM =>
        intro x cs hx
        rw [k61_open hx]
        exact k61_mkM _ _ _ x
      case aF => exact fun k hk => by rw [alloc_size] at hk; omega
      case aB => exact (below_alloc (Below.refl _ _) _).mono (Nat.zero_le _)
      case aL => simp; omega
      intro v1 w3 hR _ hg _
      have hb0' := ((Turn.refl (fun k => wc.heap.size ≤ k) wc).alloc (.cells #[] 61)).grown hg (fun k hk => .inr (Nat.le_of_eq (Option.some.inj hk)))
      have HT3 := Aside0.mk (hb0'.shrink (fun k hk => hk))
      have HR := Aside0.mk (show Kd.R k61 61 w3 0 (fun k => wc.heap.size ≤ k) v1 r.L by simpa using hR)
      have hC3 := HT3.out.blk HCb.out (fun e => e)
      have m0 : w3.cell? ⟨C, 0, none⟩ = some (.int .i64 p.f0.f0) := (blk_cell hC3 0).trans rfl
      have m1 : w3.cell? ⟨C, 1, none⟩ = some (.int .i64 p.f0.f1) := (blk_cell hC3 1).trans rfl
      have m2 : w3.cell? ⟨C, 2, none⟩ = some (.int .i64 p.f0.f2) := (blk_cell hC3 2).trans rfl
      have m3 : w3.cell? ⟨C, 3, none⟩ = some (.string p.f0.f3) := (blk_cell hC3 3).trans rfl
      have m4 : w3.cell? ⟨C, 4, none⟩ = some (.int .i64 p.f1) := (blk_cell hC3 4).trans rfl
      have m5 : w3.cell? ⟨C, 5, none⟩ = some (.int .i64 p.f2) := (blk_cell hC3 5).trans rfl
      have m6 : w3.cell? ⟨C, 6, none⟩ = some (.bool p.f3) := (blk_cell hC3 6).trans rfl
      clear hR hg hb0' c0 ca0 hC3
      go_wp2_with (at_builtin; go_loud (refine Kd.R_append k61 (W := w3) (w0 := w3) 0 rfl (.tmp 38) (.tmp 42) 51 61 (.agg #[(.int .i64 0), (.int .i64 0), (.int .i64 0), (.int .i64 0), (.string ⟨#[]⟩), (.int .i64 0), (.int .i64 0), (.bool false)]) 72 rfl Try.underlying51 info61' rfl (by decide) (by decide) v1 r.L (mkOne cl p) _ (fun k => wc.heap.size ≤ k) (fun _ => False) rfl rfl (k61_mkM _ _ _ (mkOne cl p)) (fun _ hk => hk.elim) (fun k hk => Nat.le_trans HT3.out.size hk) HR.out (Below.refl _ _) (Nat.zero_le _) (by omega) ?_))
      intro v2 w4 hR4 _ hg4 _
      obtain ⟨A2, c2, rfl⟩ := Kd.R_slice hR4
      have hT4 := ((HT3.out.mono (S2 := fun k => wc.heap.size ≤ k) (fun k hk => hk.elim)).grown hg4 (fun k hk => .inr (HR.out.1 k hk))).shrink (fun k hk => hk)
      have HR4 := Aside0.mk hR4
      have hI4 := H1.out.turn hT4 (fun _ _ x => x)
      have HI4 := Aside0.mk hI4
      have HT4 := Aside0.mk hT4
      have d0 := hI4.c0
      rw [HV.out] at d0
      have z := fun j => blk_frozen hI4.hb j
      clear hR4 hg4 hI4 hT4 m0 m1 m2 m3 m4 m5 m6
      go_wp2_with fail
      go_ret
      have hX := RowX.of_R kE1 HR4.out
      have hset := HI4.out.row_set (S2 := fun k => k < w4.heap.size ∧ (S k ∨ wc.heap.size ≤ k)) hX (fun k hk => ⟨hX.lt hk, .inr (HR4.out.1 k hk)⟩) (fun k hk => ⟨HI4.out.lt k hk, .inl hk⟩) (fun k hk => hk.1)
      rw [show (r.L ++ [mkOne cl p]).length = r.L.length + 1 by simp] at hset
      refine ⟨rfl, _, ⟨_, hset⟩, ?_, fun k hk => ?_⟩
      · exact (HT.out.trans HT4.out (fun k hk => hk.elim)).setCell (.inl H1.out.sh) _
      · rcases hk.2 with q | q
        · exact .inl q
        · exact .inr (Nat.le_trans HT.out.size q)
theorem at8 {w : World} {v : Value} {L : List One1} (h : RowX k61 61 w v L) (i : Nat) (hi : i < L.length) (o : One1) (ho : L[i]? = some o) : ∃ b c, v = .slice (some ⟨b, 0, none⟩) L.length c ∧ L.length ≤ c ∧ Kd.C k61 w (some ⟨b, 0, none⟩) L.length L ∧
    w.cell? ⟨b, i * 8, none⟩ = some (.int .i64 o.f0) ∧ w.cell? ⟨b, i * 8 + 1, none⟩ = some (.int .i64 o.f1.f0.f0) ∧ w.cell? ⟨b, i * 8 + 2, none⟩ = some (.int .i64 o.f1.f0.f1) ∧ w.cell? ⟨b, i * 8 + 3, none⟩ = some (.int .i64 o.f1.f0.f2) ∧ w.cell? ⟨b, i * 8 + 4, none⟩ = some (.string o.f1.f0.f3) ∧
    w.cell? ⟨b, i * 8 + 5, none⟩ = some (.int .i64 o.f1.f1) ∧ w.cell? ⟨b, i * 8 + 6, none⟩ = some (.int .i64 o.f1.f2) ∧ w.cell? ⟨b, i * 8 + 7, none⟩ = some (.bool o.f1.f3) := by
  obtain ⟨A, c, rfl, hc, hC⟩ := h.reads
  obtain ⟨ad, rfl, h0, h1, h2, h3, h4, h5, h6, h7⟩ := at_T61 hC i (by omega) (by omega)
  obtain ⟨b, rfl⟩ := Kd.R_head h
  have e : (⟨b, 0, none⟩ : Addr).add ((i : Int).toNat * 8) = ⟨b, i * 8, none⟩ := by
    rw [Int.toNat_natCast]
    unfold Addr.add
    split <;> simp_all
  have er : rd_T61 L (i : Int) = o := by
    unfold rd_T61
    rw [Int.toNat_natCast, List.getD_eq_getElem?_getD, ho]
    rfl
  rw [e, er] at h0 h1 h2 h3 h4 h5 h6 h7
  exact ⟨b, c, rfl, hc, hC, h0, h1, h2, h3, h4, h5, h6, h7⟩
end Go.Proofs.Ytkmhdibabdifbaa.P
