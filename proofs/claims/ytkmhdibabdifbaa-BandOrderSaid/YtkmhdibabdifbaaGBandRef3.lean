/- The document's bands of packets: Take, All; no conditions. -/
import Derived.Test.YtkmhdibabdifbaaGBandRef2
namespace Go.Proofs.Ytkmhdibabdifbaa.P
open Go.RowKit Go.Maps Go.Proofs.YtkmhdibabdifbaaW.PrintWords Go.Proofs.YtkmhdibabdifbaaW.PrintLast Go.Proofs.YtkmhdibabdifbaaW.PrintMore
set_option linter.unusedVariables false
set_option linter.unusedSimpArgs false



set_option maxHeartbeats 8000000 in
set_option maxRecDepth 100000 in
theorem ref_Take_no {w : World} {h : Nat} {r : RQv} {S : Nat → Prop} (H : IsRef w h r S) (hl : r.L.length ≤ 1000000) (hno : fstU r.L r.L.length < 0 ∨ r.stopped = true) :
    Calls Try.prog 21 #[.pointer (some ⟨h, 0, none⟩)] w fun e w' => e = .returned (.tuple #[pkV pkZ, .bool false]) ∧ IsRef w' h r S ∧ Turn S w w' := by
  have HF := Aside0.mk (fun (W : World) (HW : IsRef W h r S) => ref_first HW hl)
  obtain ⟨v, H⟩ := H
  have HI := Aside0.mk H
  have hu := Try.underlying31
  clear H
  unfold pkV pkZ z31 z29
  go_enter Try.func21, Try.ntmps21
  go_upto_region 1 with (fail)
  obtain ⟨D, hD⟩ : ∃ D, D = w.heap.size := ⟨_, rfl⟩
  rw [← hD]
  refine wp_world (fun W => RefI W h v r S ∧ W.heap[D]? = some (.cells #[.int .i64 0, .int .i64 0, .int .i64 0, .string ⟨#[]⟩, .int .i64 0, .int .i64 0, .bool false] 31 (0, 0)) ∧ Turn S w W) ⟨HI.out.turn ((Turn.refl (fun _ => False) w).alloc _) (fun _ _ x => x), by rw [hD]; exact blk_new _ _, (Turn.refl S w).alloc _⟩ ?_
  rintro W1 ⟨hI, hd, ht⟩
  have H1 := Aside0.mk hI
  have HD := Aside0.mk hd
  have HT := Aside0.mk ht
  have HDs := Aside0.mk (show ∀ k, S k → k ≠ D from fun k hk e => by have := HI.out.lt k hk; omega)
  have HDn := Aside0.mk (Nat.le_of_eq hD.symm)
  clear hI hd ht hD HI
  go_wp2_with fail
  refine (HF.out W1 ⟨v, H1.out⟩).mono ?_
  rintro e W2 ⟨rfl, hb2⟩
  have hT2 := Turn.of_below hb2 (fun _ => False)
  have hd2 := hT2.blk HD.out (fun e => e)
  have hI2 := H1.out.turn hT2 (fun _ _ x => x)
  have c3 := hI2.c3
  have H2 := Aside0.mk hI2
  have HT2 := Aside0.mk (HT.out.trans hT2 (fun k hk => hk.elim))
  have m0 := (blk_cell hd2 0).trans rfl
  have m1 := (blk_cell hd2 1).trans rfl
  have m2 := (blk_cell hd2 2).trans rfl
  have m3 := (blk_cell hd2 3).trans rfl
  have m4 := (blk_cell hd2 4).trans rfl
  have m5 := (blk_cell hd2 5).trans rfl
  have m6 := (blk_cell hd2 6).trans rfl
  have z := fun j => blk_frozen hd2 j
  have hg := blk_set (blk_set (blk_set (blk_set (blk_set (blk_set (blk_set hd2 0 (.int .i64 0)) 1 (.int .i64 0)) 2 (.int .i64 0)) 3 (.string ⟨#[]⟩)) 4 (.int .i64 0)) 5 (.int .i64 0)) 6 (.bool false)
  simp only [List.setIfInBounds_toArray, List.set_cons_zero, List.set_cons_succ] at hg
  have HG := Aside0.mk hg
  have T6 := (((((((Turn.refl (fun k => k = D) W2).setCell (p := ⟨D, 0, none⟩) (.inl rfl) (.int .i64 0)).setCell (p := ⟨D, 1, none⟩) (.inl rfl) (.int .i64 0)).setCell (p := ⟨D, 2, none⟩) (.inl rfl) (.int .i64 0)).setCell (p := ⟨D, 3, none⟩) (.inl rfl) (.string ⟨#[]⟩)).setCell (p := ⟨D, 4, none⟩) (.inl rfl) (.int .i64 0)).setCell (p := ⟨D, 5, none⟩) (.inl rfl) (.int .i64 0)).setCell (p := ⟨D, 6, none⟩) (.inl rfl) (.bool false)
  have HE := Aside0.mk (show IsRef _ h r S ∧ Turn S w _ from ⟨⟨v, H2.out.turn T6 (fun k hk e => HDs.out k hk e)⟩, HT2.out.trans T6 (fun k hk => .inr (hk ▸ HDn.out))⟩)
  clear hb2 hT2 hd2 hI2 hg T6
  generalize fstU r.L r.L.length = q at *
  by_cases hq : q < 0
  · have d1 : decide (q < 0) = true := decide_eq_true hq
    clear hq hno
    go_wp2_with fail
    refine bodyPost_ret (results_ct1 (by rfl) _ _ D 31 #[.int .i64 0, .int .i64 0, .int .i64 0, .string ⟨#[]⟩, .int .i64 0, .int .i64 0, .bool false] (0, 0) _ (by rfl) HG.out hu (by rfl) (by kernel_rfl)) rfl ?_
    exact ⟨rfl, HE.out⟩
  · have d1 : decide (q < 0) = false := decide_eq_false hq
    have e2 : r.stopped = true := hno.resolve_left hq
    rw [e2] at c3
    clear hq hno e2
    go_wp2_with fail
    refine bodyPost_ret (results_ct1 (by rfl) _ _ D 31 #[.int .i64 0, .int .i64 0, .int .i64 0, .string ⟨#[]⟩, .int .i64 0, .int .i64 0, .bool false] (0, 0) _ (by rfl) HG.out hu (by rfl) (by kernel_rfl)) rfl ?_
    exact ⟨rfl, HE.out⟩
def rtake (r : RQv) (k : Nat) : RQv := { r with L := r.L.take k ++ r.L.drop (k + 1) }
set_option maxHeartbeats 8000000 in
set_option maxRecDepth 100000 in
theorem ref_Take {w : World} {h : Nat} {r : RQv} {S : Nat → Prop} (H : IsRef w h r S) (hl : r.L.length ≤ 1000000) (k : Nat) (hk : k < r.L.length) (hf : fstU r.L r.L.length = (k : Int)) (o : One1) (ho : r.L[k]? = some o) (hs : r.stopped = false) :
    Calls Try.prog 21 #[.pointer (some ⟨h, 0, none⟩)] w fun e w' => e = .returned (.tuple #[pkV o.f1, .bool true]) ∧ ∃ S', IsRef w' h (rtake r k) S' ∧ Turn S w w' ∧ (∀ k, S' k → S k ∨ w.heap.size ≤ k) := by
  have HF := Aside0.mk (fun (W : World) (HW : IsRef W h r S) => ref_first HW hl)
  obtain ⟨v, H⟩ := H
  have HI := Aside0.mk H
  have hu := Try.underlying31
  clear H
  unfold pkV rtake
  go_enter Try.func21, Try.ntmps21
  go_upto_region 1 with (fail)
  obtain ⟨D, hD⟩ : ∃ D, D = w.heap.size := ⟨_, rfl⟩
  rw [← hD]
  refine wp_world (fun W => RefI W h v r S ∧ W.heap[D]? = some (.cells #[.int .i64 0, .int .i64 0, .int .i64 0, .string ⟨#[]⟩, .int .i64 0, .int .i64 0, .bool false] 31 (0, 0)) ∧ Turn S w W) ⟨HI.out.turn ((Turn.refl (fun _ => False) w).alloc _) (fun _ _ x => x), by rw [hD]; exact blk_new _ _, (Turn.refl S w).alloc _⟩ ?_
  rintro W1 ⟨hI, hd, ht⟩
  have H1 := Aside0.mk hI
  have HD := Aside0.mk hd
  have HT := Aside0.mk ht
  have HDs := Aside0.mk (show ∀ k, S k → k ≠ D from fun k hk e => by have := HI.out.lt k hk; omega)
  have HDn := Aside0.mk (Nat.le_of_eq hD.symm)
  clear hI hd ht hD HI
  go_wp2_with fail
  refine (HF.out W1 ⟨v, H1.out⟩).mono ?_
  rintro e W2 ⟨rfl, hb2⟩
  have hT2 := Turn.of_below hb2 (fun _ => False)
  have hd2 := hT2.blk HD.out (fun e => e)
  have hI2 := H1.out.turn hT2 (fun _ _ x => x)
  obtain ⟨b, c, hv, hc, hC, k0, k1, k2, k3, k4, k5, k6, k7⟩ := at8 hI2.row k hk o ho
  have c0 := hI2.c0
  rw [hv] at c0
  have c3 := hI2.c3
  rw [hs] at c3
  have H2 := Aside0.mk hI2
  have HT2 := Aside0.mk (HT.out.trans hT2 (fun k hk => hk.elim))
  have HD2 := Aside0.mk hd2
  have HC := Aside0.mk hC
  have HV := Aside0.mk hv
  rw [hf]
  have d1 : decide ((k : Int) < 0) = false := decide_eq_false (by omega)
  have j1 : (k : Int) < (r.L.length : Int) := by omega
  have hw1 : wrap64 ((k : Int) + 1) = (k : Int) + 1 := w64_small _ (by omega) (by omega)
  clear hb2 hT2 hd2 hI2 HF hC hv HD HT H1
  go_upto_region 5 with (fail)
  obtain ⟨C, hC⟩ : ∃ C, C = W2.heap.size := ⟨_, rfl⟩
  rw [← hC]
  refine wp_world (fun W => RefI W h v r S ∧ W.heap[D]? = some (.cells #[.int .i64 0, .int .i64 0, .int .i64 0, .string ⟨#[]⟩, .int .i64 0, .int .i64 0, .bool false] 31 (0, 0)) ∧ W.heap[C]? = some (.cells #[.int .i64 o.f1.f0.f0, .int .i64 o.f1.f0.f1, .int .i64 o.f1.f0.f2, .string o.f1.f0.f3, .int .i64 o.f1.f1, .int .i64 o.f1.f2, .bool o.f1.f3] 31 (0, 0)) ∧ Turn S w W ∧ Kd.C k61 W (some ⟨b, 0, none⟩) r.L.length r.L) ⟨H2.out.turn ((Turn.refl (fun _ => False) W2).alloc _) (fun _ _ x => x), ((Turn.refl (fun _ => False) W2).alloc _).blk HD2.out (fun x => x), by rw [hC]; exact blk_new _ _, HT2.out.alloc _, Kd.C_below HC.out (below_alloc (Below.refl _ _) _)⟩ ?_
  rintro W3 ⟨hI, hd, hp, ht, hr⟩
  have HCD := Aside0.mk (show C ≠ D ∧ (∀ k, S k → k ≠ C) ∧ w.heap.size ≤ C from ⟨by have := blk_lt HD2.out; omega, fun k hk e => by have := H2.out.lt k hk; omega, by rw [hC]; exact HT2.out.size⟩)
  clear hC c0 c3 k0 k1 k2 k3 k4 k5 k6 k7 HD2 H2 HT2 HC
  have c0 := hI.c0
  rw [HV.out] at c0
  have H3 := Aside0.mk hI
  have HD3 := Aside0.mk hd
  have HP3 := Aside0.mk hp
  have HT3 := Aside0.mk ht
  have HR3 := Aside0.mk hr
  have ca0 : (W3.alloc (.cells #[] 61)).cell? ⟨h, 0, none⟩ = some (.slice (some ⟨b, 0, none⟩) r.L.length c) := ((Turn.refl (fun _ => False) W3).alloc _).cell c0 (fun e => e)
  clear hI hd hp ht hr
  obtain ⟨i0, hi0, hz0⟩ := Option.map_eq_some_iff.1 info61'
  have hsz : i0.size = 8 := congrArg (fun x => x.2.1) hz0
  have hct := cut_to (P := Try.prog) 51 61 .i64 Try.underlying51 hi0 (some ⟨b, 0, none⟩) r.L.length c (k : Int) (by omega) (by omega) (by omega)
  rw [Int.toNat_natCast] at hct
  have hcf := cut_from (P := Try.prog) 51 61 .i64 Try.underlying51 hi0 8 hsz (some ⟨b, 0, none⟩) r.L.length c ((k : Int) + 1) (by omega) (by omega)
  rw [show ((k : Int) + 1).toNat = k + 1 by omega] at hcf
  obtain ⟨A', hA'⟩ : ∃ A', A' = (if c = k + 1 then some (⟨b, 0, none⟩ : Addr) else (some (⟨b, 0, none⟩ : Addr)).map (·.add ((k + 1) * 8))) := ⟨_, rfl⟩
  rw [← hA'] at hcf
  have lt1 : (r.L.take k).length = k := by rw [List.length_take]; omega
  have ld1 : (r.L.drop (k + 1)).length = r.L.length - (k + 1) := List.length_drop
  have HTk := Aside0.mk (show Kd.C k61 W3 (some ⟨b, 0, none⟩) k (r.L.take k) by have := Kd.C_take HR3.out (m := k) (by omega); rwa [lt1] at this)
  have HDk := Aside0.mk (show Kd.C k61 W3 A' (r.L.length - (k + 1)) (r.L.drop (k + 1)) by have := Kd.C_drop HR3.out (m := k + 1) (c := c) (by omega) hc; rw [ld1] at this; rw [hA']; exact this)
  clear hA' hi0 hz0 hsz
  go_wp2_with (at_builtin; go_loud (refine Kd.R_append_rows k61 (Rr := k61.K W3) (w0 := W3) 0 rfl (.tmp 26) (.tmp 32) 51 61 (.agg #[(.int .i64 0), (.int .i64 0), (.int .i64 0), (.int .i64 0), (.string ⟨#[]⟩), (.int .i64 0), (.int .i64 0), (.bool false)]) 72 rfl Try.underlying51 info61' rfl (by decide) (by decide) (.slice (some ⟨W3.heap.size, 0, none⟩) 0 0) [] (r.L.take k) (some ⟨b, 0, none⟩) k c (fun k => W3.heap.size ≤ k) (fun _ => False) rfl rfl ?aO ?aR ?aM (fun _ hk => hk.elim) ?aF ?aB (Nat.zero_le _) ?aL ?_))
  case aO => exact R_empty _ _ _ _ _ (blk_new _ _) (Nat.zero_le _) (Nat.le_refl _)
  case aR => exact (Kd.C_below HTk.out (below_alloc (Below.refl _ _) _))
  case aM =>
    intro x cs hx
    rw [k61_open hx]
    exact k61_mkM _ _ _ x
  case aF => exact fun k hk => by rw [alloc_size] at hk; omega
  case aB => exact (below_alloc (Below.refl _ _) _).mono (Nat.zero_le _)
  case aL => simp; omega
  intro v1 w4 hR _ hg _
  have hb4 := (((Turn.refl (fun k => W3.heap.size ≤ k) W3).alloc (.cells #[] 61)).grown hg (fun k hk => .inr (Nat.le_of_eq (Option.some.inj hk)))).shrink (fun k hk => hk)
  have hR' : Kd.R k61 61 w4 0 (fun k => W3.heap.size ≤ k) v1 (r.L.take k) := by simpa using hR
  have HR4 := Aside0.mk hR'
  have HT4 := Aside0.mk hb4
  have c4 := (hb4.cell c0 (fun e => e))
  have HDk4 := Aside0.mk (show Kd.C k61 w4 A' (r.L.length - (k + 1)) (r.L.drop (k + 1)) from Kd.C_below HDk.out hb4.to_below)
  clear hR hR' hg hb4 c0 ca0 hct HTk HDk
  go_wp2_with (at_builtin; go_loud (refine Kd.R_append_rows k61 (Rr := k61.K w4) (w0 := w4) 0 rfl (.tmp 35) (.tmp 42) 51 61 (.agg #[(.int .i64 0), (.int .i64 0), (.int .i64 0), (.int .i64 0), (.string ⟨#[]⟩), (.int .i64 0), (.int .i64 0), (.bool false)]) 72 rfl Try.underlying51 info61' rfl (by decide) (by decide) v1 (r.L.take k) (r.L.drop (k + 1)) A' (r.L.length - (k + 1)) (c - (k + 1)) (fun k => W3.heap.size ≤ k) (fun _ => False) rfl rfl HR4.out HDk4.out ?aM (fun _ hk => hk.elim) ?aF (Below.refl _ _) (Nat.zero_le _) ?aL ?_))
  case aM =>
    intro x cs hx
    rw [k61_open hx]
    exact k61_mkM _ _ _ x
  case aF => exact fun k hk => Nat.le_trans HT4.out.size hk
  case aL => rw [lt1]; omega
  intro v2 w5 hR5 _ hg5 _
  obtain ⟨A2, c2, rfl⟩ := Kd.R_slice hR5
  have hT5 := ((HT4.out.mono (S2 := fun k => W3.heap.size ≤ k) (fun k hk => hk.elim)).grown hg5 (fun k hk => .inr (HR4.out.1 k hk))).shrink (fun k hk => hk)
  generalize hL1 : r.L.take k ++ r.L.drop (k + 1) = L1 at *
  have HR5 := Aside0.mk hR5
  have hI5 := H3.out.turn hT5 (fun _ _ x => x)
  have d0 := hI5.c0
  rw [HV.out] at d0
  have z := fun j => blk_frozen hI5.hb j
  have hX := RowX.of_R kE1 hR5
  have hset := hI5.row_set (S2 := fun k => k < w5.heap.size ∧ (S k ∨ W3.heap.size ≤ k)) hX (fun k hk => ⟨hX.lt hk, .inr (HR5.out.1 k hk)⟩) (fun k hk => ⟨hI5.lt k hk, .inl hk⟩) (fun k hk => hk.1)
  have tset : Turn (fun k => k = h) w5 (w5.setCell ⟨h, 0, none⟩ (.slice A2 L1.length c2)) := (Turn.refl (fun k => k = h) _).setCell (.inl rfl) _
  have hCh : C ≠ h := fun e => HCD.out.2.1 h H3.out.sh e.symm
  have hDh : D ≠ h := fun e => HDs.out h H3.out.sh e.symm
  have HF : Aside0 (RefI (w5.setCell ⟨h, 0, none⟩ (.slice A2 L1.length c2)) h (.slice A2 L1.length c2) ⟨L1, r.bands, r.room, r.stopped⟩ (fun k => k < w5.heap.size ∧ (S k ∨ W3.heap.size ≤ k)) ∧
      (w5.setCell ⟨h, 0, none⟩ (.slice A2 L1.length c2)).heap[D]? = some (.cells #[.int .i64 0, .int .i64 0, .int .i64 0, .string ⟨#[]⟩, .int .i64 0, .int .i64 0, .bool false] 31 (0, 0)) ∧ (w5.setCell ⟨h, 0, none⟩ (.slice A2 L1.length c2)).heap[C]? = some (.cells #[.int .i64 o.f1.f0.f0, .int .i64 o.f1.f0.f1, .int .i64 o.f1.f0.f2, .string o.f1.f0.f3, .int .i64 o.f1.f1, .int .i64 o.f1.f2, .bool o.f1.f3] 31 (0, 0)) ∧ Turn S w (w5.setCell ⟨h, 0, none⟩ (.slice A2 L1.length c2))) :=
    ⟨hset, tset.blk (hT5.blk HD3.out (fun e => e)) hDh, tset.blk (hT5.blk HP3.out (fun e => e)) hCh, (HT3.out.trans hT5 (fun k hk => hk.elim)).trans tset (fun k hk => .inl (hk ▸ H3.out.sh))⟩
  have hDW := blk_lt HD3.out
  clear hR5 hg5 hT5 hI5 hX hset tset c4 hcf
  go_upto_region 7 with (fail)
  generalize w5.setCell ⟨h, 0, none⟩ (.slice A2 L1.length c2) = w6 at *
  obtain ⟨hI6, hd6, hp6, ht6⟩ := HF.out
  have p0 : w6.cell? ⟨C, 0, none⟩ = some (.int .i64 o.f1.f0.f0) := (blk_cell hp6 0).trans rfl
  have p1 : w6.cell? ⟨C, 1, none⟩ = some (.int .i64 o.f1.f0.f1) := (blk_cell hp6 1).trans rfl
  have p2 : w6.cell? ⟨C, 2, none⟩ = some (.int .i64 o.f1.f0.f2) := (blk_cell hp6 2).trans rfl
  have p3 : w6.cell? ⟨C, 3, none⟩ = some (.string o.f1.f0.f3) := (blk_cell hp6 3).trans rfl
  have p4 : w6.cell? ⟨C, 4, none⟩ = some (.int .i64 o.f1.f1) := (blk_cell hp6 4).trans rfl
  have p5 : w6.cell? ⟨C, 5, none⟩ = some (.int .i64 o.f1.f2) := (blk_cell hp6 5).trans rfl
  have p6 : w6.cell? ⟨C, 6, none⟩ = some (.bool o.f1.f3) := (blk_cell hp6 6).trans rfl
  have m0 : w6.cell? ⟨D, 0, none⟩ = some (.int .i64 0) := (blk_cell hd6 0).trans rfl
  have m1 : w6.cell? ⟨D, 1, none⟩ = some (.int .i64 0) := (blk_cell hd6 1).trans rfl
  have m2 : w6.cell? ⟨D, 2, none⟩ = some (.int .i64 0) := (blk_cell hd6 2).trans rfl
  have m3 : w6.cell? ⟨D, 3, none⟩ = some (.string ⟨#[]⟩) := (blk_cell hd6 3).trans rfl
  have m4 : w6.cell? ⟨D, 4, none⟩ = some (.int .i64 0) := (blk_cell hd6 4).trans rfl
  have m5 : w6.cell? ⟨D, 5, none⟩ = some (.int .i64 0) := (blk_cell hd6 5).trans rfl
  have m6 : w6.cell? ⟨D, 6, none⟩ = some (.bool false) := (blk_cell hd6 6).trans rfl
  have z := fun j => blk_frozen hd6 j
  have hCD : C ≠ D := HCD.out.1
  have hg := blk_set (blk_set (blk_set (blk_set (blk_set (blk_set (blk_set hd6 0 (.int .i64 o.f1.f0.f0)) 1 (.int .i64 o.f1.f0.f1)) 2 (.int .i64 o.f1.f0.f2)) 3 (.string o.f1.f0.f3)) 4 (.int .i64 o.f1.f1)) 5 (.int .i64 o.f1.f2)) 6 (.bool o.f1.f3)
  simp only [List.setIfInBounds_toArray, List.set_cons_zero, List.set_cons_succ] at hg
  have HG := Aside0.mk hg
  have T7 := ((((((((Turn.refl (fun k => k = D) w6).setCell (p := ⟨D, 0, none⟩) (.inl rfl) (.int .i64 o.f1.f0.f0)).setCell (p := ⟨D, 1, none⟩) (.inl rfl) (.int .i64 o.f1.f0.f1)).setCell (p := ⟨D, 2, none⟩) (.inl rfl) (.int .i64 o.f1.f0.f2)).setCell (p := ⟨D, 3, none⟩) (.inl rfl) (.string o.f1.f0.f3)).setCell (p := ⟨D, 4, none⟩) (.inl rfl) (.int .i64 o.f1.f1)).setCell (p := ⟨D, 5, none⟩) (.inl rfl) (.int .i64 o.f1.f2)).setCell (p := ⟨D, 6, none⟩) (.inl rfl) (.bool o.f1.f3))
  have HE := Aside0.mk (show RefI _ h _ _ _ ∧ Turn S w _ from ⟨hI6.turn T7 (fun k hk e => by
    rcases hk.2 with q | q
    · exact HDs.out k q e
    · omega), ht6.trans T7 (fun k hk => .inr (hk ▸ HDn.out))⟩)
  clear hI6 hd6 hp6 ht6 hg T7
  go_wp2_with fail
  refine bodyPost_ret (results_ct1 (by rfl) _ _ D 31 #[.int .i64 o.f1.f0.f0, .int .i64 o.f1.f0.f1, .int .i64 o.f1.f0.f2, .string o.f1.f0.f3, .int .i64 o.f1.f1, .int .i64 o.f1.f2, .bool o.f1.f3] (0, 0) _ (by rfl) HG.out hu (by rfl) (by kernel_rfl)) rfl ?_
  have he := HE.out.1
  subst hL1
  refine ⟨rfl, _, ⟨_, he⟩, HE.out.2, fun k hk => ?_⟩
  rcases hk.2 with q | q
  · exact .inl q
  · exact .inr (Nat.le_trans HT3.out.size q)
end Go.Proofs.Ytkmhdibabdifbaa.P
