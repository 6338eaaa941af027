/- (*flow.In).Take in the form of the printed contracts. -/
import Derived.Test.YthgnhhdblbiihaaGFlowIn
namespace Go.Proofs.Ythgnhhdblbiihaa.P
open Go.RowKit Go.Proofs.YthgnhhdblbiihaaW.PrintWords Go.Proofs.YthgnhhdblbiihaaW.PrintLast Go.Proofs.YthgnhhdblbiihaaW.PrintMore
set_option linter.unusedVariables false
set_option linter.unusedSimpArgs false

/-- A part heard. -/
def takeIn (s0 s1 s2 : Int) (s3 : ByteArray) (s4 s5 s6 : Int) (s7 : ByteArray) (s8 : Bool) (k n : Int) (d : ByteArray) (e : Int) : ByteArray × Int × InT :=
  if e ≠ 0 ∨ k = 3 then (⟨#[]⟩, 3, s0, s1, s2, s3, s4, s5, s6, s7, s8)
  else if k = 2 then moreP s0 s1 s2 s3 s4 s5 s6 s7 s8 n d
  else if n > s0 ∧ k = 1 then (tellP 2 0 0, 9, s0, s1, s2, ⟨#[]⟩, 0, s5, s6, ⟨#[]⟩, false)
  else if n > s0 then (⟨#[]⟩, 9, s0, s1, s2, ⟨#[]⟩, 0, s5, s6, ⟨#[]⟩, false)
  else if k = 0 then (⟨#[]⟩, 0, s0, s1, s2, ⟨#[]⟩, 0, s5, s6, d, true)
  else (tellP 0 s1 s2, 0, s0, s1, s2, d, n, 1, 0, ⟨#[]⟩, false)
def inOkB (s3 : ByteArray) (s4 s5 s6 : Int) : Bool := decide (0 ≤ s4) && decide (s4 ≤ 100000) && decide (s3.size ≤ 100000) && decide (0 ≤ s5) && decide (s5 < 16) && decide (0 ≤ s6) && decide (s6 ≤ 1000000000000)
theorem inOk_of {s3 : ByteArray} {s4 s5 s6 : Int} (h : inOkB s3 s4 s5 s6 = true) : inOk s3 s4 s5 s6 := by
  simp only [inOkB, Bool.and_eq_true, decide_eq_true_eq] at h
  obtain ⟨⟨⟨⟨⟨⟨h1, h2⟩, h3⟩, h4⟩, h5⟩, h6⟩, h7⟩ := h
  exact ⟨h1, h2, h3, h4, h5, h6, h7⟩
def flow_In_Take.f (s0 s1 s2 : Int) (s3 : ByteArray) (s4 s5 s6 : Int) (s7 : ByteArray) (s8 : Bool) (a1 : ByteArray) : Option (ByteArray × Int × Int × Int × Int × ByteArray × Int × Int × Int × ByteArray × Bool) :=
  if inOkB s3 s4 s5 s6 = true ∧ a1.size ≤ 100000 then some (takeIn s0 s1 s2 s3 s4 s5 s6 s7 s8 (readE a1).1 (readE a1).2.1 (readE a1).2.2.1 (readE a1).2.2.2) else none
theorem readE_data (s : ByteArray) (h : s.size ≤ 100000) : (readE s).2.2.1.size ≤ 100000 := by
  unfold readE readP
  dsimp only
  repeat' split
  all_goals first | (rw [ba_extract_size]; omega) | exact Nat.zero_le _

structure TkI (w0 w W : World) (g D : Nat) (s0 s1 s2 : Int) (s3 : ByteArray) (s4 s5 s6 : Int) (s7 : ByteArray) (s8 : Bool) (k n : Int) (d : ByteArray) : Prop where
  st : IsS99 w0 W g s0 s1 s2 s3 s4 s5 s6 s7 s8
  hD : W.heap[D]? = some (.cells #[.int .i64 k, .int .i64 n, .string d] 101 (0, 0))
  below : Below w0.heap.size w0 W
  keep : KeepBut w W g none
theorem TkI.on {w0 w W W' : World} {g D : Nat} {s0 s1 s2 : Int} {s3 : ByteArray} {s4 s5 s6 : Int} {s7 : ByteArray} {s8 : Bool} {t0 t1 t2 : Int} {t3 : ByteArray} {t4 t5 t6 : Int} {t7 : ByteArray} {t8 : Bool} {k n : Int} {d : ByteArray}
    (h : TkI w0 w W g D s0 s1 s2 s3 s4 s5 s6 s7 s8 k n d) (hs : IsS99 w0 W' g t0 t1 t2 t3 t4 t5 t6 t7 t8) (hb : Below w0.heap.size w0 W') (hk : KeepBut W W' g none) : TkI w0 w W' g D t0 t1 t2 t3 t4 t5 t6 t7 t8 k n d :=
  ⟨hs, hk.blk h.hD (fun e => IsS99.ne_blk h.st h.hD (by decide) e.symm) (by simp), hb, h.keep.trans hk (.inl rfl)⟩

set_option maxHeartbeats 8000000 in
set_option maxRecDepth 100000 in
theorem flow_In_Take.calls (g : Nat) (s0 s1 s2 : Int) (s3 : ByteArray) (s4 s5 s6 : Int) (s7 : ByteArray) (s8 : Bool) (a1 : ByteArray) (r1 : ByteArray) (r2 t0 t1 t2 : Int) (t3 : ByteArray) (t4 t5 t6 : Int) (t7 : ByteArray) (t8 : Bool) (w0 w : World)
    (hI : IsS99 w0 w g s0 s1 s2 s3 s4 s5 s6 s7 s8) (hB : Below w0.heap.size w0 w) (h : flow_In_Take.f s0 s1 s2 s3 s4 s5 s6 s7 s8 a1 = some (r1, r2, t0, t1, t2, t3, t4, t5, t6, t7, t8)) :
    Calls Try.prog 33 #[.pointer (some ⟨g, 0, none⟩), .string a1] w fun e w' => e = .returned (.tuple #[.string r1, .int .i64 r2]) ∧ IsS99 w0 w' g t0 t1 t2 t3 t4 t5 t6 t7 t8 ∧ Below w0.heap.size w0 w' ∧ KeepBut w w' g none := by
  unfold flow_In_Take.f at h
  by_cases hok : inOkB s3 s4 s5 s6 = true ∧ a1.size ≤ 100000
  · rw [if_pos hok] at h
    have HO := Aside0.mk (inOk_of hok.1)
    have HD := Aside0.mk (readE_data a1 hok.2)
    have HRd := Aside0.mk (seg_Read_f 0 a1 (by omega))
    have h := Option.some.inj h
    generalize hre : readE a1 = re at *
    obtain ⟨k, n, d, e0⟩ := re
    dsimp only at h HD
    have HT := Aside0.mk h
    have HI := Aside0.mk hI
    have HB := Aside0.mk hB
    have hu := Try.underlying99
    clear h hI hB hok hre
    by_cases he : e0 = 0
    · have ue : (e0 != 0) = false := bne_eq_false_iff_eq.2 he
      by_cases h3 : k = 3
      · have u3 : (k == 3) = true := beq_iff_eq.2 h3
        have HR1 := Aside0.mk (by have := HT.out; unfold takeIn at this; rw [if_pos (.inr h3)] at this; simpa only [Prod.mk.injEq] using this : (⟨#[]⟩ : ByteArray) = r1 ∧ (3 : Int) = r2 ∧ s0 = t0 ∧ s1 = t1 ∧ s2 = t2 ∧ s3 = t3 ∧ s4 = t4 ∧ s5 = t5 ∧ s6 = t6 ∧ s7 = t7 ∧ s8 = t8)
        clear he h3
        go_enter Try.func33, Try.ntmps33
        go_wp2_with fail
        refine (seg_Read.calls 3 a1 k n d e0 w HRd.out).mono ?_
        rintro e w1 ⟨rfl, hb1⟩
        have HM0 : Aside0 (TkI w0 w (w1.alloc (.cells #[.int .i64 k, .int .i64 n, .string d] 101)) g w1.heap.size s0 s1 s2 s3 s4 s5 s6 s7 s8 k n d) := ⟨⟨(IsS99.below HI.out hb1).alloc _, blk_new _ _, (HB.out.trans (hb1.mono HB.out.size)).alloc (Nat.le_trans HB.out.size hb1.size) _, KeepBut.of_below (below_alloc hb1 _) _ _⟩⟩
        clear hb1
        go_upto_region 4 with (fail)
        generalize w1.alloc (.cells #[.int .i64 k, .int .i64 n, .string d] 101) = W at *
        generalize w1.heap.size = D at *
        have p0 := (blk_cell HM0.out.hD 0).trans rfl
        have p1 := (blk_cell HM0.out.hD 1).trans rfl
        have p2 := (blk_cell HM0.out.hD 2).trans rfl
        obtain ⟨hg, hge⟩ := HM0.out.st
        have c0 := cellS99_0 hg
        have c1 := cellS99_1 hg
        have c2 := cellS99_2 hg
        have c3 := cellS99_3 hg
        have c4 := cellS99_4 hg
        have c5 := cellS99_5 hg
        have c6 := cellS99_6 hg
        have z := fun j => blk_frozen hg j
        clear hg hge
        go_wp2_with fail
        go_ret2
        obtain ⟨rfl, rfl, rfl, rfl, rfl, rfl, rfl, rfl, rfl, rfl, rfl⟩ := HR1.out
        exact ⟨rfl, HM0.out.st, HM0.out.below, HM0.out.keep⟩
      · have u3 : (k == 3) = false := beq_eq_false_iff_ne.2 h3
        have h1 : ¬ (e0 ≠ 0 ∨ k = 3) := by omega
        by_cases h2 : k = 2
        · have u2 : (k == 2) = true := beq_iff_eq.2 h2
          have HX := Aside0.mk (And.intro h1 h2)
          clear he h3 h1 h2
          go_enter Try.func33, Try.ntmps33
          go_wp2_with fail
          refine (seg_Read.calls 3 a1 k n d e0 w HRd.out).mono ?_
          rintro e w1 ⟨rfl, hb1⟩
          have HM0 : Aside0 (TkI w0 w (w1.alloc (.cells #[.int .i64 k, .int .i64 n, .string d] 101)) g w1.heap.size s0 s1 s2 s3 s4 s5 s6 s7 s8 k n d) := ⟨⟨(IsS99.below HI.out hb1).alloc _, blk_new _ _, (HB.out.trans (hb1.mono HB.out.size)).alloc (Nat.le_trans HB.out.size hb1.size) _, KeepBut.of_below (below_alloc hb1 _) _ _⟩⟩
          clear hb1
          go_upto_region 4 with (fail)
          generalize w1.alloc (.cells #[.int .i64 k, .int .i64 n, .string d] 101) = W at *
          generalize w1.heap.size = D at *
          have p0 := (blk_cell HM0.out.hD 0).trans rfl
          have p1 := (blk_cell HM0.out.hD 1).trans rfl
          have p2 := (blk_cell HM0.out.hD 2).trans rfl
          obtain ⟨hg, hge⟩ := HM0.out.st
          have c0 := cellS99_0 hg
          have c1 := cellS99_1 hg
          have c2 := cellS99_2 hg
          have c3 := cellS99_3 hg
          have c4 := cellS99_4 hg
          have c5 := cellS99_5 hg
          have c6 := cellS99_6 hg
          have z := fun j => blk_frozen hg j
          clear hg hge
          go_wp2_with fail
          refine (flow_more.calls (w0 := w0) k n d HD.out HO.out HM0.out.st HM0.out.below r1 r2 t0 t1 t2 t3 t4 t5 t6 t7 t8 (by have := HT.out; unfold takeIn at this; rw [if_neg HX.out.1, if_pos HX.out.2] at this; exact this)).mono ?_
          rintro e w3 ⟨rfl, hI3, hB3, hk3⟩
          have HM3 := Aside0.mk (HM0.out.on hI3 hB3 hk3)
          clear hI3 hB3 hk3
          go_wp2_with fail
          go_ret2
          exact ⟨rfl, HM3.out.st, HM3.out.below, HM3.out.keep⟩
        · have u2 : (k == 2) = false := beq_eq_false_iff_ne.2 h2
          by_cases hn : n > s0
          · have un : decide (n > s0) = true := decide_eq_true hn
            by_cases k1 : k = 1
            · have v1 : (k == 1) = true := beq_iff_eq.2 k1
              have HR1 := Aside0.mk (by have := HT.out; unfold takeIn at this; rw [if_neg h1, if_neg h2, if_pos ⟨hn, k1⟩] at this; simpa only [Prod.mk.injEq] using this : tellP 2 0 0 = r1 ∧ (9 : Int) = r2 ∧ s0 = t0 ∧ s1 = t1 ∧ s2 = t2 ∧ (⟨#[]⟩ : ByteArray) = t3 ∧ (0 : Int) = t4 ∧ s5 = t5 ∧ s6 = t6 ∧ (⟨#[]⟩ : ByteArray) = t7 ∧ false = t8)
              clear he h3 h1 h2 hn k1
              go_enter Try.func33, Try.ntmps33
              go_wp2_with fail
              refine (seg_Read.calls 3 a1 k n d e0 w HRd.out).mono ?_
              rintro e w1 ⟨rfl, hb1⟩
              have HM0 : Aside0 (TkI w0 w (w1.alloc (.cells #[.int .i64 k, .int .i64 n, .string d] 101)) g w1.heap.size s0 s1 s2 s3 s4 s5 s6 s7 s8 k n d) := ⟨⟨(IsS99.below HI.out hb1).alloc _, blk_new _ _, (HB.out.trans (hb1.mono HB.out.size)).alloc (Nat.le_trans HB.out.size hb1.size) _, KeepBut.of_below (below_alloc hb1 _) _ _⟩⟩
              clear hb1
              go_upto_region 4 with (fail)
              generalize w1.alloc (.cells #[.int .i64 k, .int .i64 n, .string d] 101) = W at *
              generalize w1.heap.size = D at *
              have p0 := (blk_cell HM0.out.hD 0).trans rfl
              have p1 := (blk_cell HM0.out.hD 1).trans rfl
              have p2 := (blk_cell HM0.out.hD 2).trans rfl
              obtain ⟨hg, hge⟩ := HM0.out.st
              have c0 := cellS99_0 hg
              have c1 := cellS99_1 hg
              have c2 := cellS99_2 hg
              have c3 := cellS99_3 hg
              have c4 := cellS99_4 hg
              have c5 := cellS99_5 hg
              have c6 := cellS99_6 hg
              have z := fun j => blk_frozen hg j
              clear hg hge
              go_upto_region 8 with (fail)
              go_wp2_with fail
              refine (flow_drop.calls HM0.out.st HM0.out.below).mono ?_
              rintro e w3 ⟨rfl, hI3, hB3, hk3⟩
              have HM3 := Aside0.mk (HM0.out.on hI3 hB3 hk3)
              clear hI3 hB3 hk3 p0 p1 p2 c0 c1 c2 c3 c4 c5 c6 z
              have p0 := (blk_cell HM3.out.hD 0).trans rfl
              have p1 := (blk_cell HM3.out.hD 1).trans rfl
              have p2 := (blk_cell HM3.out.hD 2).trans rfl
              obtain ⟨hg, hge⟩ := HM3.out.st
              have c0 := cellS99_0 hg
              have c1 := cellS99_1 hg
              have c2 := cellS99_2 hg
              have c3 := cellS99_3 hg
              have c4 := cellS99_4 hg
              have c5 := cellS99_5 hg
              have c6 := cellS99_6 hg
              have z := fun j => blk_frozen hg j
              clear hg hge
              go_upto_region 9 with (fail)
              refine start_ (n := 13) (S := fun w' => w'.cell? ⟨D, 1, none⟩ = some (.int .i64 n) ∧ w'.cell? ⟨g, 0, none⟩ = some (.int .i64 s0) ∧ w'.cell? ⟨D, 0, none⟩ = some (.int .i64 k)) (ds := []) #[false, false, false, false, false, false, false, false, false, false, false, false, false] (by kernel_rfl) rfl rfl ⟨p1, c0, p0⟩ (fun hHeld => ?_)
              refine pure_ (i := 0) (N := some 33) (v := ?_) (a' := ?_) #[true, false, false, false, false, false, false, false, false, false, false, false, false] rfl rfl (by kernel_rfl) (fun _ _ _ h => h) (Or.inl ⟨by rfl, ?_⟩) ?_ ?_
              rotate_left
              · intro w'
                go_simp
                with_reducible rfl
              rotate_left
              · simp only [Act.put, List.setIfInBounds_toArray, List.set_cons_zero, List.set_cons_succ, i64_w, i32_w]
                rfl
              refine pure_ (i := 2) (N := some 35) (v := ?_) (a' := ?_) #[true, false, true, false, false, false, false, false, false, false, false, false, false] rfl rfl (by kernel_rfl) (fun _ _ _ h => h) (Or.inl ⟨by rfl, ?_⟩) ?_ ?_
              rotate_left
              · intro w'
                go_simp
                with_reducible rfl
              rotate_left
              · simp only [Act.put, List.setIfInBounds_toArray, List.set_cons_zero, List.set_cons_succ, i64_w, i32_w]
                rfl
              refine pure_ (i := 3) (N := some 36) (v := ?_) (a' := ?_) #[true, false, true, true, false, false, false, false, false, false, false, false, false] rfl rfl (by kernel_rfl) (fun _ _ _ h => h) (Or.inl ⟨by rfl, ?_⟩) ?_ ?_
              rotate_left
              · intro w'
                go_simp
                with_reducible rfl
              rotate_left
              · simp only [Act.put, List.setIfInBounds_toArray, List.set_cons_zero, List.set_cons_succ, i64_w, i32_w]
                rfl
              refine pure_ (i := 4) (N := some 37) (v := ?_) (a' := ?_) #[true, false, true, true, true, false, false, false, false, false, false, false, false] rfl rfl (by kernel_rfl) (fun _ _ _ h => h) (Or.inl ⟨by rfl, ?_⟩) ?_ ?_
              rotate_left
              · intro w'
                go_simp
                with_reducible rfl
              rotate_left
              · simp only [Act.put, List.setIfInBounds_toArray, List.set_cons_zero, List.set_cons_succ, i64_w, i32_w]
                rfl
              refine take_ (i := 1) (N := some 34) (v := ?_) (a' := ?_) #[true, true, true, true, true, false, false, false, false, false, false, false, false] rfl rfl (by kernel_rfl) (fun _ _ _ h => h) (Or.inl ⟨by rfl, ?_⟩) hHeld ?_ ?_
              rotate_left
              · rintro w' ⟨s0, s1, s2⟩
                go_simp
                with_reducible rfl
              rotate_left
              · simp only [Act.put, List.setIfInBounds_toArray, List.set_cons_zero, List.set_cons_succ, i64_w, i32_w]
                rfl
              refine take_ (i := 5) (N := some 38) (v := ?_) (a' := ?_) #[true, true, true, true, true, true, false, false, false, false, false, false, false] rfl rfl (by kernel_rfl) (fun _ _ _ h => h) (Or.inl ⟨by rfl, ?_⟩) hHeld ?_ ?_
              rotate_left
              · rintro w' ⟨s0, s1, s2⟩
                go_simp
                with_reducible rfl
              rotate_left
              · simp only [Act.put, List.setIfInBounds_toArray, List.set_cons_zero, List.set_cons_succ, i64_w, i32_w]
                rfl
              refine pure_ (i := 6) (N := some 39) (v := ?_) (a' := ?_) #[true, true, true, true, true, true, true, false, false, false, false, false, false] rfl rfl (by kernel_rfl) (fun _ _ _ h => h) (Or.inl ⟨by rfl, ?_⟩) ?_ ?_
              rotate_left
              · intro w'
                go_simp
                with_reducible rfl
              rotate_left
              · simp only [Act.put, List.setIfInBounds_toArray, List.set_cons_zero, List.set_cons_succ, i64_w, i32_w]
                rfl
              refine pure_ (i := 7) (N := some 40) (v := ?_) (a' := ?_) #[true, true, true, true, true, true, true, true, false, false, false, false, false] rfl rfl (by kernel_rfl) (fun _ _ _ h => h) (Or.inl ⟨by rfl, ?_⟩) ?_ ?_
              rotate_left
              · intro w'
                go_simp
                with_reducible rfl
              rotate_left
              · simp only [Act.put, List.setIfInBounds_toArray, List.set_cons_zero, List.set_cons_succ, i64_w, i32_w]
                rfl
              refine pure_ (i := 8) (N := some 41) (v := ?_) (a' := ?_) #[true, true, true, true, true, true, true, true, true, false, false, false, false] rfl rfl (by kernel_rfl) (fun _ _ _ h => h) (Or.inl ⟨by rfl, ?_⟩) ?_ ?_
              rotate_left
              · intro w'
                go_simp
                with_reducible rfl
              rotate_left
              · simp only [Act.put, List.setIfInBounds_toArray, List.set_cons_zero, List.set_cons_succ, i64_w, i32_w]
                rfl
              refine take_ (i := 9) (N := some 42) (v := ?_) (a' := ?_) #[true, true, true, true, true, true, true, true, true, true, false, false, false] rfl rfl (by kernel_rfl) (fun _ _ _ h => h) (Or.inl ⟨by rfl, ?_⟩) hHeld ?_ ?_
              rotate_left
              · rintro w' ⟨s0, s1, s2⟩
                go_simp
                with_reducible rfl
              rotate_left
              · simp only [Act.put, List.setIfInBounds_toArray, List.set_cons_zero, List.set_cons_succ, i64_w, i32_w]
                rfl
              refine pure_ (i := 10) (N := some 43) (v := ?_) (a' := ?_) #[true, true, true, true, true, true, true, true, true, true, true, false, false] rfl rfl (by kernel_rfl) (fun _ _ _ h => h) (Or.inl ⟨by rfl, ?_⟩) ?_ ?_
              rotate_left
              · intro w'
                go_simp
                with_reducible rfl
              rotate_left
              · simp only [Act.put, List.setIfInBounds_toArray, List.set_cons_zero, List.set_cons_succ, i64_w, i32_w]
                rfl
              refine pure_ (i := 11) (N := some 44) (v := ?_) (a' := ?_) #[true, true, true, true, true, true, true, true, true, true, true, true, false] rfl rfl (by kernel_rfl) (fun _ _ _ h => h) (Or.inl ⟨by rfl, ?_⟩) ?_ ?_
              rotate_left
              · intro w'
                go_simp
                with_reducible rfl
              rotate_left
              · simp only [Act.put, List.setIfInBounds_toArray, List.set_cons_zero, List.set_cons_succ, i64_w, i32_w]
                rfl
              refine pure_ (i := 12) (N := some 32) (v := ?_) (a' := ?_) #[true, true, true, true, true, true, true, true, true, true, true, true, true] rfl rfl (by kernel_rfl) (fun _ _ _ h => h) (Or.inl ⟨by rfl, ?_⟩) ?_ ?_
              rotate_left
              · intro w'
                go_simp
                with_reducible rfl
              rotate_left
              · simp only [Act.put, List.setIfInBounds_toArray, List.set_cons_zero, List.set_cons_succ, i64_w, i32_w]
                rfl
              refine done_ (by kernel_rfl) ?_
              have HT2 := Aside0.mk (flow_tell_f 2 0 0)
              go_wp2_with fail
              refine (flow_tell.calls 1 2 0 0 _ _ HT2.out).mono ?_
              rintro e w5 ⟨rfl, hb5⟩
              have HM5 := Aside0.mk ((HM3.out.on (W' := w3.drew) HM3.out.st.drew HM3.out.below.drew (KeepBut.refl _ _ _)).on (IsS99.below HM3.out.st.drew hb5) (HM3.out.below.drew.trans (hb5.mono HM3.out.below.size)) (KeepBut.of_below hb5 g none))
              clear hb5
              go_wp2_with fail
              go_ret2
              obtain ⟨rfl, rfl, rfl, rfl, rfl, rfl, rfl, rfl, rfl, rfl, rfl⟩ := HR1.out
              exact ⟨rfl, HM5.out.st, HM5.out.below, HM5.out.keep⟩
            · have v1 : (k == 1) = false := beq_eq_false_iff_ne.2 k1
              have HR1 := Aside0.mk (by have := HT.out; unfold takeIn at this; rw [if_neg h1, if_neg h2, if_neg (fun q => k1 q.2), if_pos hn] at this; simpa only [Prod.mk.injEq] using this : (⟨#[]⟩ : ByteArray) = r1 ∧ (9 : Int) = r2 ∧ s0 = t0 ∧ s1 = t1 ∧ s2 = t2 ∧ (⟨#[]⟩ : ByteArray) = t3 ∧ (0 : Int) = t4 ∧ s5 = t5 ∧ s6 = t6 ∧ (⟨#[]⟩ : ByteArray) = t7 ∧ false = t8)
              clear he h3 h1 h2 hn k1
              go_enter Try.func33, Try.ntmps33
              go_wp2_with fail
              refine (seg_Read.calls 3 a1 k n d e0 w HRd.out).mono ?_
              rintro e w1 ⟨rfl, hb1⟩
              have HM0 : Aside0 (TkI w0 w (w1.alloc (.cells #[.int .i64 k, .int .i64 n, .string d] 101)) g w1.heap.size s0 s1 s2 s3 s4 s5 s6 s7 s8 k n d) := ⟨⟨(IsS99.below HI.out hb1).alloc _, blk_new _ _, (HB.out.trans (hb1.mono HB.out.size)).alloc (Nat.le_trans HB.out.size hb1.size) _, KeepBut.of_below (below_alloc hb1 _) _ _⟩⟩
              clear hb1
              go_upto_region 4 with (fail)
              generalize w1.alloc (.cells #[.int .i64 k, .int .i64 n, .string d] 101) = W at *
              generalize w1.heap.size = D at *
              have p0 := (blk_cell HM0.out.hD 0).trans rfl
              have p1 := (blk_cell HM0.out.hD 1).trans rfl
              have p2 := (blk_cell HM0.out.hD 2).trans rfl
              obtain ⟨hg, hge⟩ := HM0.out.st
              have c0 := cellS99_0 hg
              have c1 := cellS99_1 hg
              have c2 := cellS99_2 hg
              have c3 := cellS99_3 hg
              have c4 := cellS99_4 hg
              have c5 := cellS99_5 hg
              have c6 := cellS99_6 hg
              have z := fun j => blk_frozen hg j
              clear hg hge
              go_upto_region 8 with (fail)
              go_wp2_with fail
              refine (flow_drop.calls HM0.out.st HM0.out.below).mono ?_
              rintro e w3 ⟨rfl, hI3, hB3, hk3⟩
              have HM3 := Aside0.mk (HM0.out.on hI3 hB3 hk3)
              clear hI3 hB3 hk3 p0 p1 p2 c0 c1 c2 c3 c4 c5 c6 z
              have p0 := (blk_cell HM3.out.hD 0).trans rfl
              have p1 := (blk_cell HM3.out.hD 1).trans rfl
              have p2 := (blk_cell HM3.out.hD 2).trans rfl
              obtain ⟨hg, hge⟩ := HM3.out.st
              have c0 := cellS99_0 hg
              have c1 := cellS99_1 hg
              have c2 := cellS99_2 hg
              have c3 := cellS99_3 hg
              have c4 := cellS99_4 hg
              have c5 := cellS99_5 hg
              have c6 := cellS99_6 hg
              have z := fun j => blk_frozen hg j
              clear hg hge
              go_upto_region 9 with (fail)
              refine start_ (n := 13) (S := fun w' => w'.cell? ⟨D, 1, none⟩ = some (.int .i64 n) ∧ w'.cell? ⟨g, 0, none⟩ = some (.int .i64 s0) ∧ w'.cell? ⟨D, 0, none⟩ = some (.int .i64 k)) (ds := []) #[false, false, false, false, false, false, false, false, false, false, false, false, false] (by kernel_rfl) rfl rfl ⟨p1, c0, p0⟩ (fun hHeld => ?_)
              refine pure_ (i := 0) (N := some 33) (v := ?_) (a' := ?_) #[true, false, false, false, false, false, false, false, false, false, false, false, false] rfl rfl (by kernel_rfl) (fun _ _ _ h => h) (Or.inl ⟨by rfl, ?_⟩) ?_ ?_
              rotate_left
              · intro w'
                go_simp
                with_reducible rfl
              rotate_left
              · simp only [Act.put, List.setIfInBounds_toArray, List.set_cons_zero, List.set_cons_succ, i64_w, i32_w]
                rfl
              refine pure_ (i := 2) (N := some 35) (v := ?_) (a' := ?_) #[true, false, true, false, false, false, false, false, false, false, false, false, false] rfl rfl (by kernel_rfl) (fun _ _ _ h => h) (Or.inl ⟨by rfl, ?_⟩) ?_ ?_
              rotate_left
              · intro w'
                go_simp
                with_reducible rfl
              rotate_left
              · simp only [Act.put, List.setIfInBounds_toArray, List.set_cons_zero, List.set_cons_succ, i64_w, i32_w]
                rfl
              refine pure_ (i := 3) (N := some 36) (v := ?_) (a' := ?_) #[true, false, true, true, false, false, false, false, false, false, false, false, false] rfl rfl (by kernel_rfl) (fun _ _ _ h => h) (Or.inl ⟨by rfl, ?_⟩) ?_ ?_
              rotate_left
              · intro w'
                go_simp
                with_reducible rfl
              rotate_left
              · simp only [Act.put, List.setIfInBounds_toArray, List.set_cons_zero, List.set_cons_succ, i64_w, i32_w]
                rfl
              refine pure_ (i := 4) (N := some 37) (v := ?_) (a' := ?_) #[true, false, true, true, true, false, false, false, false, false, false, false, false] rfl rfl (by kernel_rfl) (fun _ _ _ h => h) (Or.inl ⟨by rfl, ?_⟩) ?_ ?_
              rotate_left
              · intro w'
                go_simp
                with_reducible rfl
              rotate_left
              · simp only [Act.put, List.setIfInBounds_toArray, List.set_cons_zero, List.set_cons_succ, i64_w, i32_w]
                rfl
              refine take_ (i := 1) (N := some 34) (v := ?_) (a' := ?_) #[true, true, true, true, true, false, false, false, false, false, false, false, false] rfl rfl (by kernel_rfl) (fun _ _ _ h => h) (Or.inl ⟨by rfl, ?_⟩) hHeld ?_ ?_
              rotate_left
              · rintro w' ⟨s0, s1, s2⟩
                go_simp
                with_reducible rfl
              rotate_left
              · simp only [Act.put, List.setIfInBounds_toArray, List.set_cons_zero, List.set_cons_succ, i64_w, i32_w]
                rfl
              refine take_ (i := 5) (N := some 38) (v := ?_) (a' := ?_) #[true, true, true, true, true, true, false, false, false, false, false, false, false] rfl rfl (by kernel_rfl) (fun _ _ _ h => h) (Or.inl ⟨by rfl, ?_⟩) hHeld ?_ ?_
              rotate_left
              · rintro w' ⟨s0, s1, s2⟩
                go_simp
                with_reducible rfl
              rotate_left
              · simp only [Act.put, List.setIfInBounds_toArray, List.set_cons_zero, List.set_cons_succ, i64_w, i32_w]
                rfl
              refine pure_ (i := 6) (N := some 39) (v := ?_) (a' := ?_) #[true, true, true, true, true, true, true, false, false, false, false, false, false] rfl rfl (by kernel_rfl) (fun _ _ _ h => h) (Or.inl ⟨by rfl, ?_⟩) ?_ ?_
              rotate_left
              · intro w'
                go_simp
                with_reducible rfl
              rotate_left
              · simp only [Act.put, List.setIfInBounds_toArray, List.set_cons_zero, List.set_cons_succ, i64_w, i32_w]
                rfl
              refine pure_ (i := 7) (N := some 40) (v := ?_) (a' := ?_) #[true, true, true, true, true, true, true, true, false, false, false, false, false] rfl rfl (by kernel_rfl) (fun _ _ _ h => h) (Or.inl ⟨by rfl, ?_⟩) ?_ ?_
              rotate_left
              · intro w'
                go_simp
                with_reducible rfl
              rotate_left
              · simp only [Act.put, List.setIfInBounds_toArray, List.set_cons_zero, List.set_cons_succ, i64_w, i32_w]
                rfl
              refine pure_ (i := 8) (N := some 41) (v := ?_) (a' := ?_) #[true, true, true, true, true, true, true, true, true, false, false, false, false] rfl rfl (by kernel_rfl) (fun _ _ _ h => h) (Or.inl ⟨by rfl, ?_⟩) ?_ ?_
              rotate_left
              · intro w'
                go_simp
                with_reducible rfl
              rotate_left
              · simp only [Act.put, List.setIfInBounds_toArray, List.set_cons_zero, List.set_cons_succ, i64_w, i32_w]
                rfl
              refine take_ (i := 9) (N := some 42) (v := ?_) (a' := ?_) #[true, true, true, true, true, true, true, true, true, true, false, false, false] rfl rfl (by kernel_rfl) (fun _ _ _ h => h) (Or.inl ⟨by rfl, ?_⟩) hHeld ?_ ?_
              rotate_left
              · rintro w' ⟨s0, s1, s2⟩
                go_simp
                with_reducible rfl
              rotate_left
              · simp only [Act.put, List.setIfInBounds_toArray, List.set_cons_zero, List.set_cons_succ, i64_w, i32_w]
                rfl
              refine pure_ (i := 10) (N := some 43) (v := ?_) (a' := ?_) #[true, true, true, true, true, true, true, true, true, true, true, false, false] rfl rfl (by kernel_rfl) (fun _ _ _ h => h) (Or.inl ⟨by rfl, ?_⟩) ?_ ?_
              rotate_left
              · intro w'
                go_simp
                with_reducible rfl
              rotate_left
              · simp only [Act.put, List.setIfInBounds_toArray, List.set_cons_zero, List.set_cons_succ, i64_w, i32_w]
                rfl
              refine pure_ (i := 11) (N := some 44) (v := ?_) (a' := ?_) #[true, true, true, true, true, true, true, true, true, true, true, true, false] rfl rfl (by kernel_rfl) (fun _ _ _ h => h) (Or.inl ⟨by rfl, ?_⟩) ?_ ?_
              rotate_left
              · intro w'
                go_simp
                with_reducible rfl
              rotate_left
              · simp only [Act.put, List.setIfInBounds_toArray, List.set_cons_zero, List.set_cons_succ, i64_w, i32_w]
                rfl
              refine pure_ (i := 12) (N := some 32) (v := ?_) (a' := ?_) #[true, true, true, true, true, true, true, true, true, true, true, true, true] rfl rfl (by kernel_rfl) (fun _ _ _ h => h) (Or.inl ⟨by rfl, ?_⟩) ?_ ?_
              rotate_left
              · intro w'
                go_simp
                with_reducible rfl
              rotate_left
              · simp only [Act.put, List.setIfInBounds_toArray, List.set_cons_zero, List.set_cons_succ, i64_w, i32_w]
                rfl
              refine done_ (by kernel_rfl) ?_
              go_upto_region 11 with (fail)
              refine start_ (n := 8) (S := fun w' => w'.cell? ⟨D, 1, none⟩ = some (.int .i64 n) ∧ w'.cell? ⟨g, 0, none⟩ = some (.int .i64 s0)) (ds := []) #[false, false, false, false, false, false, false, false] (by kernel_rfl) rfl rfl ⟨p1, c0⟩ (fun hHeld => ?_)
              refine pure_ (i := 0) (N := some 47) (v := ?_) (a' := ?_) #[true, false, false, false, false, false, false, false] rfl rfl (by kernel_rfl) (fun _ _ _ h => h) (Or.inl ⟨by rfl, ?_⟩) ?_ ?_
              rotate_left
              · intro w'
                go_simp
                with_reducible rfl
              rotate_left
              · simp only [Act.put, List.setIfInBounds_toArray, List.set_cons_zero, List.set_cons_succ, i64_w, i32_w]
                rfl
              refine pure_ (i := 2) (N := some 49) (v := ?_) (a' := ?_) #[true, false, true, false, false, false, false, false] rfl rfl (by kernel_rfl) (fun _ _ _ h => h) (Or.inl ⟨by rfl, ?_⟩) ?_ ?_
              rotate_left
              · intro w'
                go_simp
                with_reducible rfl
              rotate_left
              · simp only [Act.put, List.setIfInBounds_toArray, List.set_cons_zero, List.set_cons_succ, i64_w, i32_w]
                rfl
              refine pure_ (i := 3) (N := some 50) (v := ?_) (a' := ?_) #[true, false, true, true, false, false, false, false] rfl rfl (by kernel_rfl) (fun _ _ _ h => h) (Or.inl ⟨by rfl, ?_⟩) ?_ ?_
              rotate_left
              · intro w'
                go_simp
                with_reducible rfl
              rotate_left
              · simp only [Act.put, List.setIfInBounds_toArray, List.set_cons_zero, List.set_cons_succ, i64_w, i32_w]
                rfl
              refine pure_ (i := 4) (N := some 51) (v := ?_) (a' := ?_) #[true, false, true, true, true, false, false, false] rfl rfl (by kernel_rfl) (fun _ _ _ h => h) (Or.inl ⟨by rfl, ?_⟩) ?_ ?_
              rotate_left
              · intro w'
                go_simp
                with_reducible rfl
              rotate_left
              · simp only [Act.put, List.setIfInBounds_toArray, List.set_cons_zero, List.set_cons_succ, i64_w, i32_w]
                rfl
              refine take_ (i := 1) (N := some 48) (v := ?_) (a' := ?_) #[true, true, true, true, true, false, false, false] rfl rfl (by kernel_rfl) (fun _ _ _ h => h) (Or.inl ⟨by rfl, ?_⟩) hHeld ?_ ?_
              rotate_left
              · rintro w' ⟨s0, s1⟩
                go_simp
                with_reducible rfl
              rotate_left
              · simp only [Act.put, List.setIfInBounds_toArray, List.set_cons_zero, List.set_cons_succ, i64_w, i32_w]
                rfl
              refine take_ (i := 5) (N := some 52) (v := ?_) (a' := ?_) #[true, true, true, true, true, true, false, false] rfl rfl (by kernel_rfl) (fun _ _ _ h => h) (Or.inl ⟨by rfl, ?_⟩) hHeld ?_ ?_
              rotate_left
              · rintro w' ⟨s0, s1⟩
                go_simp
                with_reducible rfl
              rotate_left
              · simp only [Act.put, List.setIfInBounds_toArray, List.set_cons_zero, List.set_cons_succ, i64_w, i32_w]
                rfl
              refine pure_ (i := 6) (N := some 53) (v := ?_) (a' := ?_) #[true, true, true, true, true, true, true, false] rfl rfl (by kernel_rfl) (fun _ _ _ h => h) (Or.inl ⟨by rfl, ?_⟩) ?_ ?_
              rotate_left
              · intro w'
                go_simp
                with_reducible rfl
              rotate_left
              · simp only [Act.put, List.setIfInBounds_toArray, List.set_cons_zero, List.set_cons_succ, i64_w, i32_w]
                rfl
              refine pure_ (i := 7) (N := some 46) (v := ?_) (a' := ?_) #[true, true, true, true, true, true, true, true] rfl rfl (by kernel_rfl) (fun _ _ _ h => h) (Or.inl ⟨by rfl, ?_⟩) ?_ ?_
              rotate_left
              · intro w'
                go_simp
                with_reducible rfl
              rotate_left
              · simp only [Act.put, List.setIfInBounds_toArray, List.set_cons_zero, List.set_cons_succ, i64_w, i32_w]
                rfl
              refine done_ (by kernel_rfl) ?_
              go_wp2_with fail
              go_ret2
              obtain ⟨rfl, rfl, rfl, rfl, rfl, rfl, rfl, rfl, rfl, rfl, rfl⟩ := HR1.out
              exact ⟨rfl, HM3.out.st.drew, by repeat (first | exact HM3.out.below | apply Below.drew), HM3.out.keep⟩
          · have un : decide (n > s0) = false := decide_eq_false hn
            by_cases k0 : k = 0
            · have v0 : (k == 0) = true := beq_iff_eq.2 k0
              have HR1 := Aside0.mk (by have := HT.out; unfold takeIn at this; rw [if_neg h1, if_neg h2, if_neg (fun q => hn q.1), if_neg hn, if_pos k0] at this; simpa only [Prod.mk.injEq] using this : (⟨#[]⟩ : ByteArray) = r1 ∧ (0 : Int) = r2 ∧ s0 = t0 ∧ s1 = t1 ∧ s2 = t2 ∧ (⟨#[]⟩ : ByteArray) = t3 ∧ (0 : Int) = t4 ∧ s5 = t5 ∧ s6 = t6 ∧ d = t7 ∧ true = t8)
              clear he h3 h1 h2 hn k0
              go_enter Try.func33, Try.ntmps33
              go_wp2_with fail
              refine (seg_Read.calls 3 a1 k n d e0 w HRd.out).mono ?_
              rintro e w1 ⟨rfl, hb1⟩
              have HM0 : Aside0 (TkI w0 w (w1.alloc (.cells #[.int .i64 k, .int .i64 n, .string d] 101)) g w1.heap.size s0 s1 s2 s3 s4 s5 s6 s7 s8 k n d) := ⟨⟨(IsS99.below HI.out hb1).alloc _, blk_new _ _, (HB.out.trans (hb1.mono HB.out.size)).alloc (Nat.le_trans HB.out.size hb1.size) _, KeepBut.of_below (below_alloc hb1 _) _ _⟩⟩
              clear hb1
              go_upto_region 4 with (fail)
              generalize w1.alloc (.cells #[.int .i64 k, .int .i64 n, .string d] 101) = W at *
              generalize w1.heap.size = D at *
              have p0 := (blk_cell HM0.out.hD 0).trans rfl
              have p1 := (blk_cell HM0.out.hD 1).trans rfl
              have p2 := (blk_cell HM0.out.hD 2).trans rfl
              obtain ⟨hg, hge⟩ := HM0.out.st
              have c0 := cellS99_0 hg
              have c1 := cellS99_1 hg
              have c2 := cellS99_2 hg
              have c3 := cellS99_3 hg
              have c4 := cellS99_4 hg
              have c5 := cellS99_5 hg
              have c6 := cellS99_6 hg
              have z := fun j => blk_frozen hg j
              clear hg hge
              go_upto_region 8 with (fail)
              go_wp2_with fail
              refine (flow_drop.calls HM0.out.st HM0.out.below).mono ?_
              rintro e w3 ⟨rfl, hI3, hB3, hk3⟩
              have HM3 := Aside0.mk (HM0.out.on hI3 hB3 hk3)
              clear hI3 hB3 hk3 p0 p1 p2 c0 c1 c2 c3 c4 c5 c6 z
              have p0 := (blk_cell HM3.out.hD 0).trans rfl
              have p1 := (blk_cell HM3.out.hD 1).trans rfl
              have p2 := (blk_cell HM3.out.hD 2).trans rfl
              obtain ⟨hg, hge⟩ := HM3.out.st
              have c0 := cellS99_0 hg
              have c1 := cellS99_1 hg
              have c2 := cellS99_2 hg
              have c3 := cellS99_3 hg
              have c4 := cellS99_4 hg
              have c5 := cellS99_5 hg
              have c6 := cellS99_6 hg
              have z := fun j => blk_frozen hg j
              clear hg hge
              go_upto_region 9 with (fail)
              refine start_ (n := 13) (S := fun w' => w'.cell? ⟨D, 1, none⟩ = some (.int .i64 n) ∧ w'.cell? ⟨g, 0, none⟩ = some (.int .i64 s0) ∧ w'.cell? ⟨D, 0, none⟩ = some (.int .i64 k)) (ds := []) #[false, false, false, false, false, false, false, false, false, false, false, false, false] (by kernel_rfl) rfl rfl ⟨p1, c0, p0⟩ (fun hHeld => ?_)
              refine pure_ (i := 0) (N := some 33) (v := ?_) (a' := ?_) #[true, false, false, false, false, false, false, false, false, false, false, false, false] rfl rfl (by kernel_rfl) (fun _ _ _ h => h) (Or.inl ⟨by rfl, ?_⟩) ?_ ?_
              rotate_left
              · intro w'
                go_simp
                with_reducible rfl
              rotate_left
              · simp only [Act.put, List.setIfInBounds_toArray, List.set_cons_zero, List.set_cons_succ, i64_w, i32_w]
                rfl
              refine pure_ (i := 2) (N := some 35) (v := ?_) (a' := ?_) #[true, false, true, false, false, false, false, false, false, false, false, false, false] rfl rfl (by kernel_rfl) (fun _ _ _ h => h) (Or.inl ⟨by rfl, ?_⟩) ?_ ?_
              rotate_left
              · intro w'
                go_simp
                with_reducible rfl
              rotate_left
              · simp only [Act.put, List.setIfInBounds_toArray, List.set_cons_zero, List.set_cons_succ, i64_w, i32_w]
                rfl
              refine pure_ (i := 3) (N := some 36) (v := ?_) (a' := ?_) #[true, false, true, true, false, false, false, false, false, false, false, false, false] rfl rfl (by kernel_rfl) (fun _ _ _ h => h) (Or.inl ⟨by rfl, ?_⟩) ?_ ?_
              rotate_left
              · intro w'
                go_simp
                with_reducible rfl
              rotate_left
              · simp only [Act.put, List.setIfInBounds_toArray, List.set_cons_zero, List.set_cons_succ, i64_w, i32_w]
                rfl
              refine pure_ (i := 4) (N := some 37) (v := ?_) (a' := ?_) #[true, false, true, true, true, false, false, false, false, false, false, false, false] rfl rfl (by kernel_rfl) (fun _ _ _ h => h) (Or.inl ⟨by rfl, ?_⟩) ?_ ?_
              rotate_left
              · intro w'
                go_simp
                with_reducible rfl
              rotate_left
              · simp only [Act.put, List.setIfInBounds_toArray, List.set_cons_zero, List.set_cons_succ, i64_w, i32_w]
                rfl
              refine take_ (i := 1) (N := some 34) (v := ?_) (a' := ?_) #[true, true, true, true, true, false, false, false, false, false, false, false, false] rfl rfl (by kernel_rfl) (fun _ _ _ h => h) (Or.inl ⟨by rfl, ?_⟩) hHeld ?_ ?_
              rotate_left
              · rintro w' ⟨s0, s1, s2⟩
                go_simp
                with_reducible rfl
              rotate_left
              · simp only [Act.put, List.setIfInBounds_toArray, List.set_cons_zero, List.set_cons_succ, i64_w, i32_w]
                rfl
              refine take_ (i := 5) (N := some 38) (v := ?_) (a' := ?_) #[true, true, true, true, true, true, false, false, false, false, false, false, false] rfl rfl (by kernel_rfl) (fun _ _ _ h => h) (Or.inl ⟨by rfl, ?_⟩) hHeld ?_ ?_
              rotate_left
              · rintro w' ⟨s0, s1, s2⟩
                go_simp
                with_reducible rfl
              rotate_left
              · simp only [Act.put, List.setIfInBounds_toArray, List.set_cons_zero, List.set_cons_succ, i64_w, i32_w]
                rfl
              refine pure_ (i := 6) (N := some 39) (v := ?_) (a' := ?_) #[true, true, true, true, true, true, true, false, false, false, false, false, false] rfl rfl (by kernel_rfl) (fun _ _ _ h => h) (Or.inl ⟨by rfl, ?_⟩) ?_ ?_
              rotate_left
              · intro w'
                go_simp
                with_reducible rfl
              rotate_left
              · simp only [Act.put, List.setIfInBounds_toArray, List.set_cons_zero, List.set_cons_succ, i64_w, i32_w]
                rfl
              refine pure_ (i := 7) (N := some 40) (v := ?_) (a' := ?_) #[true, true, true, true, true, true, true, true, false, false, false, false, false] rfl rfl (by kernel_rfl) (fun _ _ _ h => h) (Or.inl ⟨by rfl, ?_⟩) ?_ ?_
              rotate_left
              · intro w'
                go_simp
                with_reducible rfl
              rotate_left
              · simp only [Act.put, List.setIfInBounds_toArray, List.set_cons_zero, List.set_cons_succ, i64_w, i32_w]
                rfl
              refine pure_ (i := 8) (N := some 41) (v := undef) (a' := ?_) #[true, true, true, true, true, true, true, true, true, false, false, false, false] rfl rfl (by kernel_rfl) (fun _ _ _ h => h) (Or.inr ⟨by rfl, rfl⟩) ?_ ?_
              rotate_left
              · simp only [Act.put, List.setIfInBounds_toArray, List.set_cons_zero, List.set_cons_succ, i64_w, i32_w]
                rfl
              refine pure_ (i := 9) (N := some 42) (v := undef) (a' := ?_) #[true, true, true, true, true, true, true, true, true, true, false, false, false] rfl rfl (by kernel_rfl) (fun _ _ _ h => h) (Or.inr ⟨by rfl, rfl⟩) ?_ ?_
              rotate_left
              · simp only [Act.put, List.setIfInBounds_toArray, List.set_cons_zero, List.set_cons_succ, i64_w, i32_w]
                rfl
              refine pure_ (i := 10) (N := some 43) (v := undef) (a' := ?_) #[true, true, true, true, true, true, true, true, true, true, true, false, false] rfl rfl (by kernel_rfl) (fun _ _ _ h => h) (Or.inr ⟨by rfl, rfl⟩) ?_ ?_
              rotate_left
              · simp only [Act.put, List.setIfInBounds_toArray, List.set_cons_zero, List.set_cons_succ, i64_w, i32_w]
                rfl
              refine pure_ (i := 11) (N := some 44) (v := ?_) (a' := ?_) #[true, true, true, true, true, true, true, true, true, true, true, true, false] rfl rfl (by kernel_rfl) (fun _ _ _ h => h) (Or.inl ⟨by rfl, ?_⟩) ?_ ?_
              rotate_left
              · intro w'
                go_simp
                with_reducible rfl
              rotate_left
              · simp only [Act.put, List.setIfInBounds_toArray, List.set_cons_zero, List.set_cons_succ, i64_w, i32_w]
                rfl
              refine pure_ (i := 12) (N := some 32) (v := ?_) (a' := ?_) #[true, true, true, true, true, true, true, true, true, true, true, true, true] rfl rfl (by kernel_rfl) (fun _ _ _ h => h) (Or.inl ⟨by rfl, ?_⟩) ?_ ?_
              rotate_left
              · intro w'
                go_simp
                with_reducible rfl
              rotate_left
              · simp only [Act.put, List.setIfInBounds_toArray, List.set_cons_zero, List.set_cons_succ, i64_w, i32_w]
                rfl
              refine done_ (by kernel_rfl) ?_
              go_upto_region 11 with (fail)
              refine start_ (n := 8) (S := fun w' => w'.cell? ⟨D, 1, none⟩ = some (.int .i64 n) ∧ w'.cell? ⟨g, 0, none⟩ = some (.int .i64 s0)) (ds := []) #[false, false, false, false, false, false, false, false] (by kernel_rfl) rfl rfl ⟨p1, c0⟩ (fun hHeld => ?_)
              refine pure_ (i := 0) (N := some 47) (v := ?_) (a' := ?_) #[true, false, false, false, false, false, false, false] rfl rfl (by kernel_rfl) (fun _ _ _ h => h) (Or.inl ⟨by rfl, ?_⟩) ?_ ?_
              rotate_left
              · intro w'
                go_simp
                with_reducible rfl
              rotate_left
              · simp only [Act.put, List.setIfInBounds_toArray, List.set_cons_zero, List.set_cons_succ, i64_w, i32_w]
                rfl
              refine pure_ (i := 2) (N := some 49) (v := ?_) (a' := ?_) #[true, false, true, false, false, false, false, false] rfl rfl (by kernel_rfl) (fun _ _ _ h => h) (Or.inl ⟨by rfl, ?_⟩) ?_ ?_
              rotate_left
              · intro w'
                go_simp
                with_reducible rfl
              rotate_left
              · simp only [Act.put, List.setIfInBounds_toArray, List.set_cons_zero, List.set_cons_succ, i64_w, i32_w]
                rfl
              refine pure_ (i := 3) (N := some 50) (v := ?_) (a' := ?_) #[true, false, true, true, false, false, false, false] rfl rfl (by kernel_rfl) (fun _ _ _ h => h) (Or.inl ⟨by rfl, ?_⟩) ?_ ?_
              rotate_left
              · intro w'
                go_simp
                with_reducible rfl
              rotate_left
              · simp only [Act.put, List.setIfInBounds_toArray, List.set_cons_zero, List.set_cons_succ, i64_w, i32_w]
                rfl
              refine pure_ (i := 4) (N := some 51) (v := ?_) (a' := ?_) #[true, false, true, true, true, false, false, false] rfl rfl (by kernel_rfl) (fun _ _ _ h => h) (Or.inl ⟨by rfl, ?_⟩) ?_ ?_
              rotate_left
              · intro w'
                go_simp
                with_reducible rfl
              rotate_left
              · simp only [Act.put, List.setIfInBounds_toArray, List.set_cons_zero, List.set_cons_succ, i64_w, i32_w]
                rfl
              refine take_ (i := 1) (N := some 48) (v := ?_) (a' := ?_) #[true, true, true, true, true, false, false, false] rfl rfl (by kernel_rfl) (fun _ _ _ h => h) (Or.inl ⟨by rfl, ?_⟩) hHeld ?_ ?_
              rotate_left
              · rintro w' ⟨s0, s1⟩
                go_simp
                with_reducible rfl
              rotate_left
              · simp only [Act.put, List.setIfInBounds_toArray, List.set_cons_zero, List.set_cons_succ, i64_w, i32_w]
                rfl
              refine take_ (i := 5) (N := some 52) (v := ?_) (a' := ?_) #[true, true, true, true, true, true, false, false] rfl rfl (by kernel_rfl) (fun _ _ _ h => h) (Or.inl ⟨by rfl, ?_⟩) hHeld ?_ ?_
              rotate_left
              · rintro w' ⟨s0, s1⟩
                go_simp
                with_reducible rfl
              rotate_left
              · simp only [Act.put, List.setIfInBounds_toArray, List.set_cons_zero, List.set_cons_succ, i64_w, i32_w]
                rfl
              refine pure_ (i := 6) (N := some 53) (v := ?_) (a' := ?_) #[true, true, true, true, true, true, true, false] rfl rfl (by kernel_rfl) (fun _ _ _ h => h) (Or.inl ⟨by rfl, ?_⟩) ?_ ?_
              rotate_left
              · intro w'
                go_simp
                with_reducible rfl
              rotate_left
              · simp only [Act.put, List.setIfInBounds_toArray, List.set_cons_zero, List.set_cons_succ, i64_w, i32_w]
                rfl
              refine pure_ (i := 7) (N := some 46) (v := ?_) (a' := ?_) #[true, true, true, true, true, true, true, true] rfl rfl (by kernel_rfl) (fun _ _ _ h => h) (Or.inl ⟨by rfl, ?_⟩) ?_ ?_
              rotate_left
              · intro w'
                go_simp
                with_reducible rfl
              rotate_left
              · simp only [Act.put, List.setIfInBounds_toArray, List.set_cons_zero, List.set_cons_succ, i64_w, i32_w]
                rfl
              refine done_ (by kernel_rfl) ?_
              go_wp2_with fail
              refine (flow_end.calls (w0 := w0) (w := w3.drew.drew) d HM3.out.st.drew.drew HM3.out.below.drew.drew).mono ?_
              rintro e w5 ⟨rfl, hI5, hB5, hk5⟩
              have HM5 := Aside0.mk ((HM3.out.on (W' := w3.drew.drew) HM3.out.st.drew.drew HM3.out.below.drew.drew (KeepBut.refl _ _ _)).on hI5 hB5 hk5)
              clear hI5 hB5 hk5
              go_wp2_with fail
              go_ret2
              obtain ⟨rfl, rfl, rfl, rfl, rfl, rfl, rfl, rfl, rfl, rfl, rfl⟩ := HR1.out
              exact ⟨rfl, HM5.out.st, HM5.out.below, HM5.out.keep⟩
            · have v0 : (k == 0) = false := beq_eq_false_iff_ne.2 k0
              have HR1 := Aside0.mk (by have := HT.out; unfold takeIn at this; rw [if_neg h1, if_neg h2, if_neg (fun q => hn q.1), if_neg hn, if_neg k0] at this; simpa only [Prod.mk.injEq] using this : tellP 0 s1 s2 = r1 ∧ (0 : Int) = r2 ∧ s0 = t0 ∧ s1 = t1 ∧ s2 = t2 ∧ d = t3 ∧ n = t4 ∧ (1 : Int) = t5 ∧ (0 : Int) = t6 ∧ (⟨#[]⟩ : ByteArray) = t7 ∧ false = t8)
              clear he h3 h1 h2 hn k0
              go_enter Try.func33, Try.ntmps33
              go_wp2_with fail
              refine (seg_Read.calls 3 a1 k n d e0 w HRd.out).mono ?_
              rintro e w1 ⟨rfl, hb1⟩
              have HM0 : Aside0 (TkI w0 w (w1.alloc (.cells #[.int .i64 k, .int .i64 n, .string d] 101)) g w1.heap.size s0 s1 s2 s3 s4 s5 s6 s7 s8 k n d) := ⟨⟨(IsS99.below HI.out hb1).alloc _, blk_new _ _, (HB.out.trans (hb1.mono HB.out.size)).alloc (Nat.le_trans HB.out.size hb1.size) _, KeepBut.of_below (below_alloc hb1 _) _ _⟩⟩
              clear hb1
              go_upto_region 4 with (fail)
              generalize w1.alloc (.cells #[.int .i64 k, .int .i64 n, .string d] 101) = W at *
              generalize w1.heap.size = D at *
              have p0 := (blk_cell HM0.out.hD 0).trans rfl
              have p1 := (blk_cell HM0.out.hD 1).trans rfl
              have p2 := (blk_cell HM0.out.hD 2).trans rfl
              obtain ⟨hg, hge⟩ := HM0.out.st
              have c0 := cellS99_0 hg
              have c1 := cellS99_1 hg
              have c2 := cellS99_2 hg
              have c3 := cellS99_3 hg
              have c4 := cellS99_4 hg
              have c5 := cellS99_5 hg
              have c6 := cellS99_6 hg
              have z := fun j => blk_frozen hg j
              clear hg hge
              go_upto_region 8 with (fail)
              go_wp2_with fail
              refine (flow_drop.calls HM0.out.st HM0.out.below).mono ?_
              rintro e w3 ⟨rfl, hI3, hB3, hk3⟩
              have HM3 := Aside0.mk (HM0.out.on hI3 hB3 hk3)
              clear hI3 hB3 hk3 p0 p1 p2 c0 c1 c2 c3 c4 c5 c6 z
              have p0 := (blk_cell HM3.out.hD 0).trans rfl
              have p1 := (blk_cell HM3.out.hD 1).trans rfl
              have p2 := (blk_cell HM3.out.hD 2).trans rfl
              obtain ⟨hg, hge⟩ := HM3.out.st
              have c0 := cellS99_0 hg
              have c1 := cellS99_1 hg
              have c2 := cellS99_2 hg
              have c3 := cellS99_3 hg
              have c4 := cellS99_4 hg
              have c5 := cellS99_5 hg
              have c6 := cellS99_6 hg
              have z := fun j => blk_frozen hg j
              clear hg hge
              go_upto_region 9 with (fail)
              refine start_ (n := 13) (S := fun w' => w'.cell? ⟨D, 1, none⟩ = some (.int .i64 n) ∧ w'.cell? ⟨g, 0, none⟩ = some (.int .i64 s0) ∧ w'.cell? ⟨D, 0, none⟩ = some (.int .i64 k)) (ds := []) #[false, false, false, false, false, false, false, false, false, false, false, false, false] (by kernel_rfl) rfl rfl ⟨p1, c0, p0⟩ (fun hHeld => ?_)
              refine pure_ (i := 0) (N := some 33) (v := ?_) (a' := ?_) #[true, false, false, false, false, false, false, false, false, false, false, false, false] rfl rfl (by kernel_rfl) (fun _ _ _ h => h) (Or.inl ⟨by rfl, ?_⟩) ?_ ?_
              rotate_left
              · intro w'
                go_simp
                with_reducible rfl
              rotate_left
              · simp only [Act.put, List.setIfInBounds_toArray, List.set_cons_zero, List.set_cons_succ, i64_w, i32_w]
                rfl
              refine pure_ (i := 2) (N := some 35) (v := ?_) (a' := ?_) #[true, false, true, false, false, false, false, false, false, false, false, false, false] rfl rfl (by kernel_rfl) (fun _ _ _ h => h) (Or.inl ⟨by rfl, ?_⟩) ?_ ?_
              rotate_left
              · intro w'
                go_simp
                with_reducible rfl
              rotate_left
              · simp only [Act.put, List.setIfInBounds_toArray, List.set_cons_zero, List.set_cons_succ, i64_w, i32_w]
                rfl
              refine pure_ (i := 3) (N := some 36) (v := ?_) (a' := ?_) #[true, false, true, true, false, false, false, false, false, false, false, false, false] rfl rfl (by kernel_rfl) (fun _ _ _ h => h) (Or.inl ⟨by rfl, ?_⟩) ?_ ?_
              rotate_left
              · intro w'
                go_simp
                with_reducible rfl
              rotate_left
              · simp only [Act.put, List.setIfInBounds_toArray, List.set_cons_zero, List.set_cons_succ, i64_w, i32_w]
                rfl
              refine pure_ (i := 4) (N := some 37) (v := ?_) (a' := ?_) #[true, false, true, true, true, false, false, false, false, false, false, false, false] rfl rfl (by kernel_rfl) (fun _ _ _ h => h) (Or.inl ⟨by rfl, ?_⟩) ?_ ?_
              rotate_left
              · intro w'
                go_simp
                with_reducible rfl
              rotate_left
              · simp only [Act.put, List.setIfInBounds_toArray, List.set_cons_zero, List.set_cons_succ, i64_w, i32_w]
                rfl
              refine take_ (i := 1) (N := some 34) (v := ?_) (a' := ?_) #[true, true, true, true, true, false, false, false, false, false, false, false, false] rfl rfl (by kernel_rfl) (fun _ _ _ h => h) (Or.inl ⟨by rfl, ?_⟩) hHeld ?_ ?_
              rotate_left
              · rintro w' ⟨s0, s1, s2⟩
                go_simp
                with_reducible rfl
              rotate_left
              · simp only [Act.put, List.setIfInBounds_toArray, List.set_cons_zero, List.set_cons_succ, i64_w, i32_w]
                rfl
              refine take_ (i := 5) (N := some 38) (v := ?_) (a' := ?_) #[true, true, true, true, true, true, false, false, false, false, false, false, false] rfl rfl (by kernel_rfl) (fun _ _ _ h => h) (Or.inl ⟨by rfl, ?_⟩) hHeld ?_ ?_
              rotate_left
              · rintro w' ⟨s0, s1, s2⟩
                go_simp
                with_reducible rfl
              rotate_left
              · simp only [Act.put, List.setIfInBounds_toArray, List.set_cons_zero, List.set_cons_succ, i64_w, i32_w]
                rfl
              refine pure_ (i := 6) (N := some 39) (v := ?_) (a' := ?_) #[true, true, true, true, true, true, true, false, false, false, false, false, false] rfl rfl (by kernel_rfl) (fun _ _ _ h => h) (Or.inl ⟨by rfl, ?_⟩) ?_ ?_
              rotate_left
              · intro w'
                go_simp
                with_reducible rfl
              rotate_left
              · simp only [Act.put, List.setIfInBounds_toArray, List.set_cons_zero, List.set_cons_succ, i64_w, i32_w]
                rfl
              refine pure_ (i := 7) (N := some 40) (v := ?_) (a' := ?_) #[true, true, true, true, true, true, true, true, false, false, false, false, false] rfl rfl (by kernel_rfl) (fun _ _ _ h => h) (Or.inl ⟨by rfl, ?_⟩) ?_ ?_
              rotate_left
              · intro w'
                go_simp
                with_reducible rfl
              rotate_left
              · simp only [Act.put, List.setIfInBounds_toArray, List.set_cons_zero, List.set_cons_succ, i64_w, i32_w]
                rfl
              refine pure_ (i := 8) (N := some 41) (v := undef) (a' := ?_) #[true, true, true, true, true, true, true, true, true, false, false, false, false] rfl rfl (by kernel_rfl) (fun _ _ _ h => h) (Or.inr ⟨by rfl, rfl⟩) ?_ ?_
              rotate_left
              · simp only [Act.put, List.setIfInBounds_toArray, List.set_cons_zero, List.set_cons_succ, i64_w, i32_w]
                rfl
              refine pure_ (i := 9) (N := some 42) (v := undef) (a' := ?_) #[true, true, true, true, true, true, true, true, true, true, false, false, false] rfl rfl (by kernel_rfl) (fun _ _ _ h => h) (Or.inr ⟨by rfl, rfl⟩) ?_ ?_
              rotate_left
              · simp only [Act.put, List.setIfInBounds_toArray, List.set_cons_zero, List.set_cons_succ, i64_w, i32_w]
                rfl
              refine pure_ (i := 10) (N := some 43) (v := undef) (a' := ?_) #[true, true, true, true, true, true, true, true, true, true, true, false, false] rfl rfl (by kernel_rfl) (fun _ _ _ h => h) (Or.inr ⟨by rfl, rfl⟩) ?_ ?_
              rotate_left
              · simp only [Act.put, List.setIfInBounds_toArray, List.set_cons_zero, List.set_cons_succ, i64_w, i32_w]
                rfl
              refine pure_ (i := 11) (N := some 44) (v := ?_) (a' := ?_) #[true, true, true, true, true, true, true, true, true, true, true, true, false] rfl rfl (by kernel_rfl) (fun _ _ _ h => h) (Or.inl ⟨by rfl, ?_⟩) ?_ ?_
              rotate_left
              · intro w'
                go_simp
                with_reducible rfl
              rotate_left
              · simp only [Act.put, List.setIfInBounds_toArray, List.set_cons_zero, List.set_cons_succ, i64_w, i32_w]
                rfl
              refine pure_ (i := 12) (N := some 32) (v := ?_) (a' := ?_) #[true, true, true, true, true, true, true, true, true, true, true, true, true] rfl rfl (by kernel_rfl) (fun _ _ _ h => h) (Or.inl ⟨by rfl, ?_⟩) ?_ ?_
              rotate_left
              · intro w'
                go_simp
                with_reducible rfl
              rotate_left
              · simp only [Act.put, List.setIfInBounds_toArray, List.set_cons_zero, List.set_cons_succ, i64_w, i32_w]
                rfl
              refine done_ (by kernel_rfl) ?_
              go_upto_region 11 with (fail)
              refine start_ (n := 8) (S := fun w' => w'.cell? ⟨D, 1, none⟩ = some (.int .i64 n) ∧ w'.cell? ⟨g, 0, none⟩ = some (.int .i64 s0)) (ds := []) #[false, false, false, false, false, false, false, false] (by kernel_rfl) rfl rfl ⟨p1, c0⟩ (fun hHeld => ?_)
              refine pure_ (i := 0) (N := some 47) (v := ?_) (a' := ?_) #[true, false, false, false, false, false, false, false] rfl rfl (by kernel_rfl) (fun _ _ _ h => h) (Or.inl ⟨by rfl, ?_⟩) ?_ ?_
              rotate_left
              · intro w'
                go_simp
                with_reducible rfl
              rotate_left
              · simp only [Act.put, List.setIfInBounds_toArray, List.set_cons_zero, List.set_cons_succ, i64_w, i32_w]
                rfl
              refine pure_ (i := 2) (N := some 49) (v := ?_) (a' := ?_) #[true, false, true, false, false, false, false, false] rfl rfl (by kernel_rfl) (fun _ _ _ h => h) (Or.inl ⟨by rfl, ?_⟩) ?_ ?_
              rotate_left
              · intro w'
                go_simp
                with_reducible rfl
              rotate_left
              · simp only [Act.put, List.setIfInBounds_toArray, List.set_cons_zero, List.set_cons_succ, i64_w, i32_w]
                rfl
              refine pure_ (i := 3) (N := some 50) (v := ?_) (a' := ?_) #[true, false, true, true, false, false, false, false] rfl rfl (by kernel_rfl) (fun _ _ _ h => h) (Or.inl ⟨by rfl, ?_⟩) ?_ ?_
              rotate_left
              · intro w'
                go_simp
                with_reducible rfl
              rotate_left
              · simp only [Act.put, List.setIfInBounds_toArray, List.set_cons_zero, List.set_cons_succ, i64_w, i32_w]
                rfl
              refine pure_ (i := 4) (N := some 51) (v := ?_) (a' := ?_) #[true, false, true, true, true, false, false, false] rfl rfl (by kernel_rfl) (fun _ _ _ h => h) (Or.inl ⟨by rfl, ?_⟩) ?_ ?_
              rotate_left
              · intro w'
                go_simp
                with_reducible rfl
              rotate_left
              · simp only [Act.put, List.setIfInBounds_toArray, List.set_cons_zero, List.set_cons_succ, i64_w, i32_w]
                rfl
              refine take_ (i := 1) (N := some 48) (v := ?_) (a' := ?_) #[true, true, true, true, true, false, false, false] rfl rfl (by kernel_rfl) (fun _ _ _ h => h) (Or.inl ⟨by rfl, ?_⟩) hHeld ?_ ?_
              rotate_left
              · rintro w' ⟨s0, s1⟩
                go_simp
                with_reducible rfl
              rotate_left
              · simp only [Act.put, List.setIfInBounds_toArray, List.set_cons_zero, List.set_cons_succ, i64_w, i32_w]
                rfl
              refine take_ (i := 5) (N := some 52) (v := ?_) (a' := ?_) #[true, true, true, true, true, true, false, false] rfl rfl (by kernel_rfl) (fun _ _ _ h => h) (Or.inl ⟨by rfl, ?_⟩) hHeld ?_ ?_
              rotate_left
              · rintro w' ⟨s0, s1⟩
                go_simp
                with_reducible rfl
              rotate_left
              · simp only [Act.put, List.setIfInBounds_toArray, List.set_cons_zero, List.set_cons_succ, i64_w, i32_w]
                rfl
              refine pure_ (i := 6) (N := some 53) (v := ?_) (a' := ?_) #[true, true, true, true, true, true, true, false] rfl rfl (by kernel_rfl) (fun _ _ _ h => h) (Or.inl ⟨by rfl, ?_⟩) ?_ ?_
              rotate_left
              · intro w'
                go_simp
                with_reducible rfl
              rotate_left
              · simp only [Act.put, List.setIfInBounds_toArray, List.set_cons_zero, List.set_cons_succ, i64_w, i32_w]
                rfl
              refine pure_ (i := 7) (N := some 46) (v := ?_) (a' := ?_) #[true, true, true, true, true, true, true, true] rfl rfl (by kernel_rfl) (fun _ _ _ h => h) (Or.inl ⟨by rfl, ?_⟩) ?_ ?_
              rotate_left
              · intro w'
                go_simp
                with_reducible rfl
              rotate_left
              · simp only [Act.put, List.setIfInBounds_toArray, List.set_cons_zero, List.set_cons_succ, i64_w, i32_w]
                rfl
              refine done_ (by kernel_rfl) ?_
              have hDg : D ≠ g := fun e => IsS99.ne_blk HM3.out.st HM3.out.hD (by decide) e.symm
              go_upto_region 15 with (fail)
              refine start_ (n := 20) (S := fun w' => w'.cell? ⟨D, 2, none⟩ = some (.string d) ∧ w'.cell? ⟨D, 1, none⟩ = some (.int .i64 n)) (ds := [13, 16, 19]) #[false, false, false, false, false, false, false, false, false, false, false, false, false, false, false, false, false, false, false, false] (by kernel_rfl) rfl rfl ⟨p2, p1⟩ (fun hHeld => ?_)
              refine pure_ (i := 0) (N := some 64) (v := ?_) (a' := ?_) #[true, false, false, false, false, false, false, false, false, false, false, false, false, false, false, false, false, false, false, false] rfl rfl (by kernel_rfl) (fun _ _ _ h => h) (Or.inl ⟨by rfl, ?_⟩) ?_ ?_
              rotate_left
              · intro w'
                go_simp
                with_reducible rfl
              rotate_left
              · simp only [Act.put, List.setIfInBounds_toArray, List.set_cons_zero, List.set_cons_succ, i64_w, i32_w]
                rfl
              refine pure_ (i := 1) (N := some 65) (v := ?_) (a' := ?_) #[true, true, false, false, false, false, false, false, false, false, false, false, false, false, false, false, false, false, false, false] rfl rfl (by kernel_rfl) (fun _ _ _ h => h) (Or.inl ⟨by rfl, ?_⟩) ?_ ?_
              rotate_left
              · intro w'
                go_simp
                with_reducible rfl
              rotate_left
              · simp only [Act.put, List.setIfInBounds_toArray, List.set_cons_zero, List.set_cons_succ, i64_w, i32_w]
                rfl
              refine pure_ (i := 2) (N := some 66) (v := ?_) (a' := ?_) #[true, true, true, false, false, false, false, false, false, false, false, false, false, false, false, false, false, false, false, false] rfl rfl (by kernel_rfl) (fun _ _ _ h => h) (Or.inl ⟨by rfl, ?_⟩) ?_ ?_
              rotate_left
              · intro w'
                go_simp
                with_reducible rfl
              rotate_left
              · simp only [Act.put, List.setIfInBounds_toArray, List.set_cons_zero, List.set_cons_succ, i64_w, i32_w]
                rfl
              refine pure_ (i := 3) (N := some 67) (v := ?_) (a' := ?_) #[true, true, true, true, false, false, false, false, false, false, false, false, false, false, false, false, false, false, false, false] rfl rfl (by kernel_rfl) (fun _ _ _ h => h) (Or.inl ⟨by rfl, ?_⟩) ?_ ?_
              rotate_left
              · intro w'
                go_simp
                with_reducible rfl
              rotate_left
              · simp only [Act.put, List.setIfInBounds_toArray, List.set_cons_zero, List.set_cons_succ, i64_w, i32_w]
                rfl
              refine pure_ (i := 4) (N := some 68) (v := ?_) (a' := ?_) #[true, true, true, true, true, false, false, false, false, false, false, false, false, false, false, false, false, false, false, false] rfl rfl (by kernel_rfl) (fun _ _ _ h => h) (Or.inl ⟨by rfl, ?_⟩) ?_ ?_
              rotate_left
              · intro w'
                go_simp
                with_reducible rfl
              rotate_left
              · simp only [Act.put, List.setIfInBounds_toArray, List.set_cons_zero, List.set_cons_succ, i64_w, i32_w]
                rfl
              refine pure_ (i := 6) (N := some 70) (v := ?_) (a' := ?_) #[true, true, true, true, true, false, true, false, false, false, false, false, false, false, false, false, false, false, false, false] rfl rfl (by kernel_rfl) (fun _ _ _ h => h) (Or.inl ⟨by rfl, ?_⟩) ?_ ?_
              rotate_left
              · intro w'
                go_simp
                with_reducible rfl
              rotate_left
              · simp only [Act.put, List.setIfInBounds_toArray, List.set_cons_zero, List.set_cons_succ, i64_w, i32_w]
                rfl
              refine take_ (i := 5) (N := some 69) (v := ?_) (a' := ?_) #[true, true, true, true, true, true, true, false, false, false, false, false, false, false, false, false, false, false, false, false] rfl rfl (by kernel_rfl) (fun _ _ _ h => h) (Or.inl ⟨by rfl, ?_⟩) hHeld ?_ ?_
              rotate_left
              · rintro w' ⟨s0, s1⟩
                go_simp
                with_reducible rfl
              rotate_left
              · simp only [Act.put, List.setIfInBounds_toArray, List.set_cons_zero, List.set_cons_succ, i64_w, i32_w]
                rfl
              refine pure_ (i := 8) (N := some 72) (v := ?_) (a' := ?_) #[true, true, true, true, true, true, true, false, true, false, false, false, false, false, false, false, false, false, false, false] rfl rfl (by kernel_rfl) (fun _ _ _ h => h) (Or.inl ⟨by rfl, ?_⟩) ?_ ?_
              rotate_left
              · intro w'
                go_simp
                with_reducible rfl
              rotate_left
              · simp only [Act.put, List.setIfInBounds_toArray, List.set_cons_zero, List.set_cons_succ, i64_w, i32_w]
                rfl
              refine pure_ (i := 9) (N := some 73) (v := ?_) (a' := ?_) #[true, true, true, true, true, true, true, false, true, true, false, false, false, false, false, false, false, false, false, false] rfl rfl (by kernel_rfl) (fun _ _ _ h => h) (Or.inl ⟨by rfl, ?_⟩) ?_ ?_
              rotate_left
              · intro w'
                go_simp
                with_reducible rfl
              rotate_left
              · simp only [Act.put, List.setIfInBounds_toArray, List.set_cons_zero, List.set_cons_succ, i64_w, i32_w]
                rfl
              refine take_ (i := 7) (N := some 71) (v := ?_) (a' := ?_) #[true, true, true, true, true, true, true, true, true, true, false, false, false, false, false, false, false, false, false, false] rfl rfl (by kernel_rfl) (fun _ _ _ h => h) (Or.inl ⟨by rfl, ?_⟩) hHeld ?_ ?_
              rotate_left
              · rintro w' ⟨s0, s1⟩
                go_simp
                with_reducible rfl
              rotate_left
              · simp only [Act.put, List.setIfInBounds_toArray, List.set_cons_zero, List.set_cons_succ, i64_w, i32_w]
                rfl
              refine one_ (i := 10) (N := none) #[true, true, true, true, true, true, true, true, true, true, true, false, false, false, false, false, false, false, false, false] rfl rfl (by kernel_rfl) (by decide) (fun K hK => ?_)
              refine skip_ (w1 := ?_) (by rfl) rfl ?_ ?_
              rotate_left
              · go_simp
                rfl
              refine hK.out _ _ ⟨((blk_cell (blk_far (w := w3.drew.drew.drew) (p := ⟨g, 3, none⟩) HM3.out.hD hDg (.string d)) 2).trans rfl), ((blk_cell (blk_far (w := w3.drew.drew.drew) (p := ⟨g, 3, none⟩) HM3.out.hD hDg (.string d)) 1).trans rfl)⟩ (fun hHeld => ?_)
              clear hK K
              refine pure_ (i := 11) (N := some 74) (v := ?_) (a' := ?_) #[true, true, true, true, true, true, true, true, true, true, true, true, false, false, false, false, false, false, false, false] rfl rfl (by kernel_rfl) (fun _ _ _ h => h) (Or.inl ⟨by rfl, ?_⟩) ?_ ?_
              rotate_left
              · intro w'
                go_simp
                with_reducible rfl
              rotate_left
              · simp only [Act.put, List.setIfInBounds_toArray, List.set_cons_zero, List.set_cons_succ, i64_w, i32_w]
                rfl
              refine pure_ (i := 12) (N := some 75) (v := ?_) (a' := ?_) #[true, true, true, true, true, true, true, true, true, true, true, true, true, false, false, false, false, false, false, false] rfl rfl (by kernel_rfl) (fun _ _ _ h => h) (Or.inl ⟨by rfl, ?_⟩) ?_ ?_
              rotate_left
              · intro w'
                go_simp
                with_reducible rfl
              rotate_left
              · simp only [Act.put, List.setIfInBounds_toArray, List.set_cons_zero, List.set_cons_succ, i64_w, i32_w]
                rfl
              refine last_ (i := 13) (N := none) #[true, true, true, true, true, true, true, true, true, true, true, true, true, true, false, false, false, false, false, false] rfl rfl (by kernel_rfl) (by decide) (fun K hK => ?_)
              refine skip_ (w1 := ?_) (by rfl) rfl ?_ ?_
              rotate_left
              · go_simp
                rfl
              refine hK.out _ _ ?_
              clear hK K
              refine pure_ (i := 14) (N := some 76) (v := ?_) (a' := ?_) #[true, true, true, true, true, true, true, true, true, true, true, true, true, true, true, false, false, false, false, false] rfl rfl (by kernel_rfl) (fun _ _ _ h => h) (Or.inl ⟨by rfl, ?_⟩) ?_ ?_
              rotate_left
              · intro w'
                go_simp
                with_reducible rfl
              rotate_left
              · simp only [Act.put, List.setIfInBounds_toArray, List.set_cons_zero, List.set_cons_succ, i64_w, i32_w]
                rfl
              refine pure_ (i := 15) (N := some 77) (v := ?_) (a' := ?_) #[true, true, true, true, true, true, true, true, true, true, true, true, true, true, true, true, false, false, false, false] rfl rfl (by kernel_rfl) (fun _ _ _ h => h) (Or.inl ⟨by rfl, ?_⟩) ?_ ?_
              rotate_left
              · intro w'
                go_simp
                with_reducible rfl
              rotate_left
              · simp only [Act.put, List.setIfInBounds_toArray, List.set_cons_zero, List.set_cons_succ, i64_w, i32_w]
                rfl
              refine last_ (i := 16) (N := none) #[true, true, true, true, true, true, true, true, true, true, true, true, true, true, true, true, true, false, false, false] rfl rfl (by kernel_rfl) (by decide) (fun K hK => ?_)
              refine skip_ (w1 := ?_) (by rfl) rfl ?_ ?_
              rotate_left
              · go_simp
                rfl
              refine hK.out _ _ ?_
              clear hK K
              refine pure_ (i := 17) (N := some 78) (v := ?_) (a' := ?_) #[true, true, true, true, true, true, true, true, true, true, true, true, true, true, true, true, true, true, false, false] rfl rfl (by kernel_rfl) (fun _ _ _ h => h) (Or.inl ⟨by rfl, ?_⟩) ?_ ?_
              rotate_left
              · intro w'
                go_simp
                with_reducible rfl
              rotate_left
              · simp only [Act.put, List.setIfInBounds_toArray, List.set_cons_zero, List.set_cons_succ, i64_w, i32_w]
                rfl
              refine pure_ (i := 18) (N := some 79) (v := ?_) (a' := ?_) #[true, true, true, true, true, true, true, true, true, true, true, true, true, true, true, true, true, true, true, false] rfl rfl (by kernel_rfl) (fun _ _ _ h => h) (Or.inl ⟨by rfl, ?_⟩) ?_ ?_
              rotate_left
              · intro w'
                go_simp
                with_reducible rfl
              rotate_left
              · simp only [Act.put, List.setIfInBounds_toArray, List.set_cons_zero, List.set_cons_succ, i64_w, i32_w]
                rfl
              refine last_ (i := 19) (N := none) #[true, true, true, true, true, true, true, true, true, true, true, true, true, true, true, true, true, true, true, true] rfl rfl (by kernel_rfl) (by decide) (fun K hK => ?_)
              refine skip_ (w1 := ?_) (by rfl) rfl ?_ ?_
              rotate_left
              · go_simp
                rfl
              refine hK.out _ _ ?_
              clear hK K
              refine done_ (by kernel_rfl) ?_
              go_upto_region 16 with (fail)
              clear p0 p1 p2 c0 c1 c2 c3 c4 c5 c6 z
              refine wp_at (fun W' => TkI w0 w W' g D s0 s1 s2 d n 1 0 ⟨#[]⟩ false k n d) ?_ ?_
              · refine HM3.out.on (by repeat (with_reducible first | exact HM3.out.st | apply IsS99.set_6 | apply IsS99.set_5 | apply IsS99.set_4 | apply IsS99.set_3 | apply IsS99.drewN | apply IsS99.drew)) (by repeat (with_reducible first | exact HM3.out.below | apply Below.drew | apply below_drewN | refine Below.setCell ?_ (IsS99.ge HM3.out.st) _)) (by repeat (with_reducible first | exact KeepBut.refl _ _ _ | apply KeepBut.set_ | apply keep_drewN | apply keep_drew))
              intro W6 h_
              have HM6 := Aside0.mk h_
              clear h_
              obtain ⟨hg, hge⟩ := HM6.out.st
              have c1 := cellS99_1 hg
              have c2 := cellS99_2 hg
              clear hg hge
              have HT2 := Aside0.mk (flow_tell_f 0 s1 s2)
              refine start_ (n := 11) (S := fun w' => w'.cell? ⟨g, 1, none⟩ = some (.int .i64 s1) ∧ w'.cell? ⟨g, 2, none⟩ = some (.int .i64 s2)) (ds := [8]) #[false, false, false, false, false, false, false, false, false, false, false] (by kernel_rfl) rfl rfl ⟨c1, c2⟩ (fun hHeld => ?_)
              refine pure_ (i := 0) (N := some 80) (v := ?_) (a' := ?_) #[true, false, false, false, false, false, false, false, false, false, false] rfl rfl (by kernel_rfl) (fun _ _ _ h => h) (Or.inl ⟨by rfl, ?_⟩) ?_ ?_
              rotate_left
              · intro w'
                go_simp
                with_reducible rfl
              rotate_left
              · simp only [Act.put, List.setIfInBounds_toArray, List.set_cons_zero, List.set_cons_succ, i64_w, i32_w]
                rfl
              refine pure_ (i := 1) (N := some 81) (v := ?_) (a' := ?_) #[true, true, false, false, false, false, false, false, false, false, false] rfl rfl (by kernel_rfl) (fun _ _ _ h => h) (Or.inl ⟨by rfl, ?_⟩) ?_ ?_
              rotate_left
              · intro w'
                go_simp
                with_reducible rfl
              rotate_left
              · simp only [Act.put, List.setIfInBounds_toArray, List.set_cons_zero, List.set_cons_succ, i64_w, i32_w]
                rfl
              refine pure_ (i := 2) (N := some 82) (v := ?_) (a' := ?_) #[true, true, true, false, false, false, false, false, false, false, false] rfl rfl (by kernel_rfl) (fun _ _ _ h => h) (Or.inl ⟨by rfl, ?_⟩) ?_ ?_
              rotate_left
              · intro w'
                go_simp
                with_reducible rfl
              rotate_left
              · simp only [Act.put, List.setIfInBounds_toArray, List.set_cons_zero, List.set_cons_succ, i64_w, i32_w]
                rfl
              refine pure_ (i := 4) (N := some 84) (v := ?_) (a' := ?_) #[true, true, true, false, true, false, false, false, false, false, false] rfl rfl (by kernel_rfl) (fun _ _ _ h => h) (Or.inl ⟨by rfl, ?_⟩) ?_ ?_
              rotate_left
              · intro w'
                go_simp
                with_reducible rfl
              rotate_left
              · simp only [Act.put, List.setIfInBounds_toArray, List.set_cons_zero, List.set_cons_succ, i64_w, i32_w]
                rfl
              refine pure_ (i := 5) (N := some 85) (v := ?_) (a' := ?_) #[true, true, true, false, true, true, false, false, false, false, false] rfl rfl (by kernel_rfl) (fun _ _ _ h => h) (Or.inl ⟨by rfl, ?_⟩) ?_ ?_
              rotate_left
              · intro w'
                go_simp
                with_reducible rfl
              rotate_left
              · simp only [Act.put, List.setIfInBounds_toArray, List.set_cons_zero, List.set_cons_succ, i64_w, i32_w]
                rfl
              refine pure_ (i := 6) (N := some 86) (v := ?_) (a' := ?_) #[true, true, true, false, true, true, true, false, false, false, false] rfl rfl (by kernel_rfl) (fun _ _ _ h => h) (Or.inl ⟨by rfl, ?_⟩) ?_ ?_
              rotate_left
              · intro w'
                go_simp
                with_reducible rfl
              rotate_left
              · simp only [Act.put, List.setIfInBounds_toArray, List.set_cons_zero, List.set_cons_succ, i64_w, i32_w]
                rfl
              refine take_ (i := 3) (N := some 83) (v := ?_) (a' := ?_) #[true, true, true, true, true, true, true, false, false, false, false] rfl rfl (by kernel_rfl) (fun _ _ _ h => h) (Or.inl ⟨by rfl, ?_⟩) hHeld ?_ ?_
              rotate_left
              · rintro w' ⟨s0, s1⟩
                go_simp
                with_reducible rfl
              rotate_left
              · simp only [Act.put, List.setIfInBounds_toArray, List.set_cons_zero, List.set_cons_succ, i64_w, i32_w]
                rfl
              refine take_ (i := 7) (N := some 87) (v := ?_) (a' := ?_) #[true, true, true, true, true, true, true, true, false, false, false] rfl rfl (by kernel_rfl) (fun _ _ _ h => h) (Or.inl ⟨by rfl, ?_⟩) hHeld ?_ ?_
              rotate_left
              · rintro w' ⟨s0, s1⟩
                go_simp
                with_reducible rfl
              rotate_left
              · simp only [Act.put, List.setIfInBounds_toArray, List.set_cons_zero, List.set_cons_succ, i64_w, i32_w]
                rfl
              refine last_ (i := 8) (N := some 88) #[true, true, true, true, true, true, true, true, true, false, false] rfl rfl (by kernel_rfl) (by decide) (fun K hK => ?_)
              refine goes_ Try.func53 (by kernel_rfl) rfl #[.int .i64 0, .int .i64 s1, .int .i64 s2] (by rfl) rfl rfl (by first | (simp only [List.map_toArray, List.map_cons, List.map_nil]; done) | (simp only [List.map_toArray, List.map_cons, List.map_nil]; rfl)) ?_
              with_reducible refine (flow_tell.calls 1 0 s1 s2 _ _ HT2.out).mono ?_
              rintro e w7 ⟨rfl, hb7⟩
              refine ⟨_, rfl, ?_⟩
              have HM7 := Aside0.mk ((HM6.out.on (W' := W6.drew) HM6.out.st.drew HM6.out.below.drew (KeepBut.refl _ _ _)).on (IsS99.below HM6.out.st.drew hb7) (HM6.out.below.drew.trans (hb7.mono HM6.out.below.size)) (KeepBut.of_below hb7 g none))
              refine hK.out _ _ ?_
              clear hK K
              refine norm_ (a' := ?_) ?_ ?_
              rotate_left
              · show Act.put _ (some 88) _ = _
                simp only [Act.put, List.setIfInBounds_toArray, List.set_cons_zero, List.set_cons_succ, i64_w, i32_w]
                rfl
              refine pure_ (i := 9) (N := some 4) (v := ?_) (a' := ?_) #[true, true, true, true, true, true, true, true, true, true, false] rfl rfl (by kernel_rfl) (fun _ _ _ h => h) (Or.inl ⟨by rfl, ?_⟩) ?_ ?_
              rotate_left
              · intro w'
                go_simp
                with_reducible rfl
              rotate_left
              · simp only [Act.put, List.setIfInBounds_toArray, List.set_cons_zero, List.set_cons_succ, i64_w, i32_w]
                rfl
              refine pure_ (i := 10) (N := some 5) (v := ?_) (a' := ?_) #[true, true, true, true, true, true, true, true, true, true, true] rfl rfl (by kernel_rfl) (fun _ _ _ h => h) (Or.inl ⟨by rfl, ?_⟩) ?_ ?_
              rotate_left
              · intro w'
                go_simp
                with_reducible rfl
              rotate_left
              · simp only [Act.put, List.setIfInBounds_toArray, List.set_cons_zero, List.set_cons_succ, i64_w, i32_w]
                rfl
              refine done_ (by kernel_rfl) ?_
              go_wp2_with fail
              go_ret2
              obtain ⟨rfl, rfl, rfl, rfl, rfl, rfl, rfl, rfl, rfl, rfl, rfl⟩ := HR1.out
              exact ⟨rfl, HM7.out.st, HM7.out.below, HM7.out.keep⟩
    · have ue : (e0 != 0) = true := by simpa using he
      have HR1 := Aside0.mk (by have := HT.out; unfold takeIn at this; rw [if_pos (.inl he)] at this; simpa only [Prod.mk.injEq] using this : (⟨#[]⟩ : ByteArray) = r1 ∧ (3 : Int) = r2 ∧ s0 = t0 ∧ s1 = t1 ∧ s2 = t2 ∧ s3 = t3 ∧ s4 = t4 ∧ s5 = t5 ∧ s6 = t6 ∧ s7 = t7 ∧ s8 = t8)
      clear he
      go_enter Try.func33, Try.ntmps33
      go_wp2_with fail
      refine (seg_Read.calls 3 a1 k n d e0 w HRd.out).mono ?_
      rintro e w1 ⟨rfl, hb1⟩
      have HM0 : Aside0 (TkI w0 w (w1.alloc (.cells #[.int .i64 k, .int .i64 n, .string d] 101)) g w1.heap.size s0 s1 s2 s3 s4 s5 s6 s7 s8 k n d) := ⟨⟨(IsS99.below HI.out hb1).alloc _, blk_new _ _, (HB.out.trans (hb1.mono HB.out.size)).alloc (Nat.le_trans HB.out.size hb1.size) _, KeepBut.of_below (below_alloc hb1 _) _ _⟩⟩
      clear hb1
      go_upto_region 4 with (fail)
      generalize w1.alloc (.cells #[.int .i64 k, .int .i64 n, .string d] 101) = W at *
      generalize w1.heap.size = D at *
      have p0 := (blk_cell HM0.out.hD 0).trans rfl
      have p1 := (blk_cell HM0.out.hD 1).trans rfl
      have p2 := (blk_cell HM0.out.hD 2).trans rfl
      obtain ⟨hg, hge⟩ := HM0.out.st
      have c0 := cellS99_0 hg
      have c1 := cellS99_1 hg
      have c2 := cellS99_2 hg
      have c3 := cellS99_3 hg
      have c4 := cellS99_4 hg
      have c5 := cellS99_5 hg
      have c6 := cellS99_6 hg
      have z := fun j => blk_frozen hg j
      clear hg hge
      go_wp2_with fail
      go_ret2
      obtain ⟨rfl, rfl, rfl, rfl, rfl, rfl, rfl, rfl, rfl, rfl, rfl⟩ := HR1.out
      exact ⟨rfl, HM0.out.st, HM0.out.below, HM0.out.keep⟩
  · rw [if_neg hok] at h; cases h
end Go.Proofs.Ythgnhhdblbiihaa.P
