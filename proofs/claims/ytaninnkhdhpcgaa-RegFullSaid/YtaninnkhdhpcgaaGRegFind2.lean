/- A register of entries: Find; no conditions beyond small numbers. -/
import Derived.Test.YtaninnkhdhpcgaaGRegFind
namespace Go.Proofs.Ytaninnkhdhpcgaa.P
open Go.RowKit Go.Maps Go.Proofs.YtaninnkhdhpcgaaW.PrintWords Go.Proofs.YtaninnkhdhpcgaaW.PrintLast Go.Proofs.YtaninnkhdhpcgaaW.PrintMore
set_option linter.unusedVariables false
set_option linter.unusedSimpArgs false

set_option maxHeartbeats 4000000 in
set_option maxRecDepth 100000 in
theorem reg_Find_nil (x0 x1 x2 : Int) (x3 : ByteArray) (w : World) : Calls Try.prog 17 #[.pointer none, .agg #[.int .i64 x0, .int .i64 x1, .int .i64 x2, .string x3]] w fun e w' => e = .returned (.slice none 0 0) ∧ Below w.heap.size w w' := by
  go_enter Try.func17, Try.ntmps17
  go_wp2_with fail
  go_ret
  exact ⟨rfl, below_alloc (Below.refl _ _) _⟩
set_option maxHeartbeats 16000000 in
set_option maxRecDepth 100000 in
theorem reg_Find {w : World} {g : Nat} {r : RGv} {S : Nat → Prop} {k : Nat} {x0 x1 x2 : Int} {x3 : ByteArray} {wd : Int} {mt : Flt → Bool} (ok : ROk r) (hR : frame_Right.f k x0 x1 x2 x3 = some 0) (hE : Go.bits .and .i64 x1 4 = 0) (hW : frame_Word.f k x0 x1 x2 x3 = some wd) (hwf : (Lit.int .u32 wd).wf = true)
    (hM : ∀ f : Flt, match_Match.f k f.f0 f.f1 f.f2 x0 x1 x2 x3 = some (mt f)) (h : IsReg g r w S) :
    Calls Try.prog 17 #[.pointer (some ⟨g, 0, none⟩), .agg #[.int .i64 x0, .int .i64 x1, .int .i64 x2, .string x3]] w fun e w' => ∃ v, e = .returned v ∧ RowX (Kd.int .i64) 3 w' v ((hitsL wd mt r.L).map (·.owner)) ∧ (∀ k, v.ownBlock = some k → w.heap.size ≤ k) ∧ Below w.heap.size w w' := by
  have H := Aside0.mk h
  have OK := Aside0.mk ok
  have HR := Aside0.mk (fun W => frame_Right.calls k x0 x1 x2 x3 0 W hR)
  have HWd := Aside0.mk (fun W => frame_Word.calls k x0 x1 x2 x3 wd W hW)
  have HMt := Aside0.mk (fun (f : Flt) W => match_Match.calls k f.f0 f.f1 f.f2 x0 x1 x2 x3 (mt f) W (hM f))
  have HWf := Aside0.mk hwf
  have hE1 : ((Go.bits .and .i64 x1 4) != 0) = false := by rw [hE]; rfl
  clear h ok hR hE hW hM hwf
  have hu := Try.underlying36
  go_enter Try.func17, Try.ntmps17
  go_upto_region 1 with (fail)
  obtain ⟨B, hB⟩ : ∃ B, B = w.heap.size := ⟨_, rfl⟩
  rw [← hB]
  refine wp_world (fun W => W.heap[B]? = some (.cells #[.int .i64 x0, .int .i64 x1, .int .i64 x2, .string x3] 36 (0, 0)) ∧ Below w.heap.size w W) ⟨by rw [hB]; exact blk_new _ _, below_alloc (Below.refl _ _) _⟩ ?_
  rintro W1 ⟨hb, hbl⟩
  have HB1 := Aside0.mk hb
  have HL1 := Aside0.mk hbl
  have HBn := Aside0.mk (Nat.le_of_eq hB.symm)
  have b0 : W1.cell? ⟨B, 0, none⟩ = some (.int .i64 x0) := (blk_cell hb 0).trans rfl
  have b1 : W1.cell? ⟨B, 1, none⟩ = some (.int .i64 x1) := (blk_cell hb 1).trans rfl
  have b2 : W1.cell? ⟨B, 2, none⟩ = some (.int .i64 x2) := (blk_cell hb 2).trans rfl
  have b3 : W1.cell? ⟨B, 3, none⟩ = some (.string x3) := (blk_cell hb 3).trans rfl
  clear hb hbl hB
  go_wp2_with fail
  refine (HR.out _).mono ?_
  rintro e W2 ⟨rfl, hbl⟩
  have HB2 := Aside0.mk ((hbl.block B (blk_lt HB1.out)).trans HB1.out)
  have HL2 := Aside0.mk (HL1.out.trans (hbl.mono HL1.out.size))
  clear hbl b0 b1 b2 b3 HB1 HL1 HR
  have b0 : W2.cell? ⟨B, 0, none⟩ = some (.int .i64 x0) := (blk_cell HB2.out 0).trans rfl
  have b1 : W2.cell? ⟨B, 1, none⟩ = some (.int .i64 x1) := (blk_cell HB2.out 1).trans rfl
  have b2 : W2.cell? ⟨B, 2, none⟩ = some (.int .i64 x2) := (blk_cell HB2.out 2).trans rfl
  have b3 : W2.cell? ⟨B, 3, none⟩ = some (.string x3) := (blk_cell HB2.out 3).trans rfl
  obtain ⟨mb, s, F, v, hi⟩ := H.out.turn (Turn.of_below HL2.out (fun _ => False)) (fun _ _ x => x)
  have H2 := Aside0.mk hi
  have c0 := hi.c0
  have HLk := Aside0.mk (show ∀ w', Turn (fun _ => False) W2 w' → (Instr.lookup 54 (.map (some mb)) (.int .u32 wd) false).run Try.prog w' = .ok (sl0 (F wd)) w' from fun w' ht' => (H2.out.map.turn ht' (fun x => x)).mapI.look Try.underlying22 Try.underlying54 (zero55 _) HWf.out)
  clear hi
  go_upto_region 3 with (fail)
  refine start_ (n := 9) (S := fun w' => w'.cell? ⟨g, 0, none⟩ = some (.map (some mb)) ∧ w'.cell? ⟨B, 0, none⟩ = some (.int .i64 x0) ∧ w'.cell? ⟨B, 1, none⟩ = some (.int .i64 x1) ∧ w'.cell? ⟨B, 2, none⟩ = some (.int .i64 x2) ∧ w'.cell? ⟨B, 3, none⟩ = some (.string x3) ∧ (Instr.lookup 54 (.map (some mb)) (.int .u32 wd) false).run Try.prog w' = .ok (sl0 (F wd)) w') (ds := [7]) #[false, false, false, false, false, false, false, false, false] (by kernel_rfl) rfl rfl ⟨c0, b0, b1, b2, b3, HLk.out _ (Turn.refl _ _).drew⟩ (fun hHeld => ?_)
  refine pure_ (i := 0) (N := some 24) (v := ?_) (a' := ?_) #[true, false, false, false, false, false, false, false, false] rfl rfl (by kernel_rfl) (fun _ _ _ h => h) (Or.inl ⟨by rfl, ?_⟩) ?_ ?_
  rotate_left
  · intro w'
    go_simp
    with_reducible rfl
  rotate_left
  · simp only [Act.put, List.setIfInBounds_toArray, List.set_cons_zero, List.set_cons_succ, i64_w, i32_w]
    rfl
  refine pure_ (i := 1) (N := some 25) (v := ?_) (a' := ?_) #[true, true, false, false, false, false, false, false, false] rfl rfl (by kernel_rfl) (fun _ _ _ h => h) (Or.inl ⟨by rfl, ?_⟩) ?_ ?_
  rotate_left
  · intro w'
    go_simp
    with_reducible rfl
  rotate_left
  · simp only [Act.put, List.setIfInBounds_toArray, List.set_cons_zero, List.set_cons_succ, i64_w, i32_w]
    rfl
  refine pure_ (i := 2) (N := some 26) (v := ?_) (a' := ?_) #[true, true, true, false, false, false, false, false, false] rfl rfl (by kernel_rfl) (fun _ _ _ h => h) (Or.inl ⟨by rfl, ?_⟩) ?_ ?_
  rotate_left
  · intro w'
    go_simp
    with_reducible rfl
  rotate_left
  · simp only [Act.put, List.setIfInBounds_toArray, List.set_cons_zero, List.set_cons_succ, i64_w, i32_w]
    rfl
  refine take_ (i := 3) (N := some 27) (v := ?_) (a' := ?_) #[true, true, true, true, false, false, false, false, false] rfl rfl (by kernel_rfl) (fun _ _ _ h => h) (Or.inl ⟨by rfl, ?_⟩) hHeld ?_ ?_
  rotate_left
  · rintro w' ⟨s0, s1, s2, s3, s4, s5⟩
    go_simp
    with_reducible rfl
  rotate_left
  · simp only [Act.put, List.setIfInBounds_toArray, List.set_cons_zero, List.set_cons_succ, i64_w, i32_w]
    rfl
  refine take_ (i := 4) (N := some 28) (v := ?_) (a' := ?_) #[true, true, true, true, true, false, false, false, false] rfl rfl (by kernel_rfl) (fun _ _ _ h => h) (Or.inl ⟨by rfl, ?_⟩) hHeld ?_ ?_
  rotate_left
  · rintro w' ⟨s0, s1, s2, s3, s4, s5⟩
    go_simp
    with_reducible rfl
  rotate_left
  · simp only [Act.put, List.setIfInBounds_toArray, List.set_cons_zero, List.set_cons_succ, i64_w, i32_w]
    rfl
  refine one_ (i := 5) (N := some 29) #[true, true, true, true, true, true, false, false, false] rfl rfl (by kernel_rfl) (by decide) (fun K hK => ?_)
  refine goes_ Try.func31 (by kernel_rfl) rfl #[.agg #[.int .i64 x0, .int .i64 x1, .int .i64 x2, .string x3]] (by rfl) rfl rfl (by first | (simp only [List.map_toArray, List.map_cons, List.map_nil]; done) | (simp only [List.map_toArray, List.map_cons, List.map_nil]; rfl)) ?_
  with_reducible refine (HWd.out _).mono ?_
  rintro e W3 ⟨rfl, hb3⟩
  refine ⟨_, rfl, ?_⟩
  have ht3 : Turn (fun _ => False) W2 W3 := ((Turn.refl (fun _ => False) W2).drew).step hb3
  refine hK.out _ _ ⟨(ht3.cell c0 (fun x => x)), (ht3.cell b0 (fun x => x)), (ht3.cell b1 (fun x => x)), (ht3.cell b2 (fun x => x)), (ht3.cell b3 (fun x => x)), (HLk.out _ ht3)⟩ (fun hHeld => ?_)
  clear hK K
  refine norm_ (a' := ?_) ?_ ?_
  rotate_left
  · show Act.put _ (some 29) _ = _
    simp only [Act.put, List.setIfInBounds_toArray, List.set_cons_zero, List.set_cons_succ, i64_w, i32_w]
    rfl
  refine take_ (i := 6) (N := some 30) (v := ?_) (a' := ?_) #[true, true, true, true, true, true, true, false, false] rfl rfl (by kernel_rfl) (fun _ _ _ h => h) (Or.inl ⟨by rfl, ?_⟩) hHeld ?_ ?_
  rotate_left
  · rintro w' ⟨s0, s1, s2, s3, s4, s5⟩
    go_simp
    with_reducible rfl
  rotate_left
  · simp only [Act.put, List.setIfInBounds_toArray, List.set_cons_zero, List.set_cons_succ, i64_w, i32_w]
    rfl
  refine last_ (i := 7) (N := some 31) #[true, true, true, true, true, true, true, true, false] rfl rfl (by kernel_rfl) (by decide) (fun K hK => ?_)
  refine goes_ Try.func28 (by kernel_rfl) rfl #[sl0 (F wd)] (by rfl) rfl rfl (by first | (simp only [List.map_toArray, List.map_cons, List.map_nil]; done) | (simp only [List.map_toArray, List.map_cons, List.map_nil]; rfl)) ?_
  with_reducible refine (clone_calls ((H2.out.word wd).turn ht3 (fun _ _ x => x)) (by have := word_len r.L wd; have := OK.out.len; omega)).mono ?_
  rintro e W4 ⟨v4, rfl, hx4, hn4, hb4⟩
  refine ⟨_, rfl, ?_⟩
  have HX4 := Aside0.mk hx4
  have HN4 := Aside0.mk (show ∀ k, v4.ownBlock = some k → w.heap.size ≤ k from fun k hk => Nat.le_trans (Nat.le_trans HL2.out.size ht3.size) (hn4 k hk))
  have HT4 := Aside0.mk (ht3.step hb4)
  refine hK.out _ _ ?_
  clear hK K
  refine norm_ (a' := ?_) ?_ ?_
  rotate_left
  · show Act.put _ (some 31) _ = _
    simp only [Act.put, List.setIfInBounds_toArray, List.set_cons_zero, List.set_cons_succ, i64_w, i32_w]
    rfl
  refine pure_ (i := 8) (N := some 5) (v := ?_) (a' := ?_) #[true, true, true, true, true, true, true, true, true] rfl rfl (by kernel_rfl) (fun _ _ _ h => h) (Or.inl ⟨by rfl, ?_⟩) ?_ ?_
  rotate_left
  · intro w'
    go_simp
    with_reducible rfl
  rotate_left
  · simp only [Act.put, List.setIfInBounds_toArray, List.set_cons_zero, List.set_cons_succ, i64_w, i32_w]
    rfl
  refine done_ (by kernel_rfl) ?_
  clear hHeld
  try clear hHeld
  clear hx4 hn4 hb4 hb3 ht3 HLk HWd
  simp only [Exit.then]
  apply_assumption
  have H4 := Aside0.mk (H2.out.turn HT4.out (fun _ _ x => x))
  have HB4 := Aside0.mk (HT4.out.blk HB2.out (fun x => x))
  have HL4 := Aside0.mk (HL2.out.trans ((HT4.out.to_below).mono HL2.out.size))
  clear H2 HB2 HL2 HT4 b0 b1 b2 b3 c0
  obtain ⟨A, cc, hv, hc, hC⟩ := H4.out.rest.reads
  have c1 := H4.out.c1
  rw [hv] at c1
  have HRr := Aside0.mk (show RowX kEt 59 W4 (.slice A (restE r.L).length cc) (restE r.L) by rw [← hv]; exact H4.out.rest)
  have HVs := Aside0.mk (show ∀ k, (Value.slice A (restE r.L).length cc).ownBlock = some k → k < w.heap.size from fun k hk => by rw [← hv] at hk; exact H.out.lt k (H4.out.sv k hk))
  clear hv hc hC
  have hu2 := Try.underlying59
  have hu3 := Try.underlying24
  have HLn := Aside0.mk (show (restE r.L).length ≤ 51200 ∧ (wordL r.L wd).length ≤ 51200 from ⟨Nat.le_trans (rest_len _) OK.out.len, Nat.le_trans (word_len _ _) OK.out.len⟩)
  go_wp2_with fail
  clear c1
  go_loopw [5, 37] (fun v5 v37 wr => ∃ j : Nat, j ≤ (restE r.L).length ∧ v37 = .int .i64 j ∧ Aside0 (RowX kEt 59 wr v5 (wordL r.L wd ++ ((restE r.L).take j).filter (fun e => mt e.flt)) ∧ (∀ k, v5.ownBlock = some k → w.heap.size ≤ k) ∧ wr.heap[B]? = some (.cells #[.int .i64 x0, .int .i64 x1, .int .i64 x2, .string x3] 36 (0, 0)) ∧ RowX kEt 59 wr (.slice A (restE r.L).length cc) (restE r.L) ∧ Below w.heap.size w wr)) (fun _ v _ => (restE r.L).length + 1 - (intOf v).toNat)
  case atStart => exact ⟨0, by omega, rfl, ⟨by simpa using HX4.out, HN4.out, HB4.out, HRr.out, HL4.out⟩⟩
  case round =>
    obtain ⟨j, hj, rfl, HQ⟩ := hrel
    clear HX4 HN4 HB4 HRr
    by_cases hjl : j < (restE r.L).length
    · have d1 : decide ((j : Int) < ((restE r.L).length : Int)) = true := decide_eq_true (by omega)
      have j1 : (j : Int) < ((restE r.L).length : Int) := by omega
      have HW := Aside0.mk (show wrap64 ((j : Int) + 1) = ((j + 1 : Nat) : Int) from wrap_succ j (by have := HLn.out; omega))
      have HM := Aside0.mk (meas_succ hjl (by have := HLn.out; omega))
      obtain ⟨en, hen⟩ : ∃ en, (restE r.L)[j]? = some en := ⟨_, List.getElem?_eq_getElem hjl⟩
      obtain ⟨A', c', e1, _, hC⟩ := HQ.out.2.2.2.1.reads
      injection e1 with e1 e2 e3
      subst e1
      subst e3
      clear e2
      obtain ⟨ad, rfl, y0, y1, y2, y3, y4⟩ := at_Et hC j hen
      obtain ⟨b, rfl⟩ := Kd.R_head HQ.out.2.2.2.1
      rw [add_plain] at y0 y1 y2 y3 y4
      have HTk := Aside0.mk (show (restE r.L).take (j + 1) = (restE r.L).take j ++ [en] by rw [List.take_add_one, hen]; rfl)
      clear hC hen
      go_upto_region 7 with (fail)
      obtain ⟨X, hX⟩ : ∃ X, X = wr.heap.size := ⟨_, rfl⟩
      rw [← hX]
      refine wp_world (fun W => RowX kEt 59 W u5 (wordL r.L wd ++ ((restE r.L).take j).filter (fun e => mt e.flt)) ∧ W.heap[B]? = some (.cells #[.int .i64 x0, .int .i64 x1, .int .i64 x2, .string x3] 36 (0, 0)) ∧ RowX kEt 59 W (.slice (some ⟨b, 0, none⟩) (restE r.L).length cc) (restE r.L) ∧ Below w.heap.size w W ∧ W.heap[X]? = some (.cells #[.int .i64 en.owner, .int .u32 en.flt.f0, .int .u32 en.flt.f1, .bool en.flt.f2, .int .i64 en.since] 59 (0, 0))) ⟨HQ.out.1.turn ((Turn.refl (fun _ => False) wr).alloc _) (fun _ _ x => x), ((Turn.refl (fun _ => False) wr).alloc _).blk HQ.out.2.2.1 (fun x => x), HQ.out.2.2.2.1.turn ((Turn.refl (fun _ => False) wr).alloc _) (fun _ _ x => x), below_alloc HQ.out.2.2.2.2 _, by rw [hX]; exact blk_new _ _⟩ ?_
      rintro W5 ⟨q1, q2, q3, q4, q5⟩
      have HXu := Aside0.mk (show ∀ k, u5.ownBlock = some k → k ≠ X ∧ k ≠ B ∧ w.heap.size ≤ k from fun k hk => ⟨fun e => by have := HQ.out.1.lt hk; omega, fun e => by subst e; exact HQ.out.1.ne_cells HQ.out.2.2.1 (by decide) hk, HQ.out.2.1 k hk⟩)
      have b0 : W5.cell? ⟨B, 0, none⟩ = some (.int .i64 x0) := (blk_cell q2 0).trans rfl
      have b1 : W5.cell? ⟨B, 1, none⟩ = some (.int .i64 x1) := (blk_cell q2 1).trans rfl
      have b2 : W5.cell? ⟨B, 2, none⟩ = some (.int .i64 x2) := (blk_cell q2 2).trans rfl
      have b3 : W5.cell? ⟨B, 3, none⟩ = some (.string x3) := (blk_cell q2 3).trans rfl
      have f0 : W5.cell? ⟨X, 1, none⟩ = some (.int .u32 en.flt.f0) := (blk_cell q5 1).trans rfl
      have f1 : W5.cell? ⟨X, 2, none⟩ = some (.int .u32 en.flt.f1) := (blk_cell q5 2).trans rfl
      have f2 : W5.cell? ⟨X, 3, none⟩ = some (.bool en.flt.f2) := (blk_cell q5 3).trans rfl
      have Q1 := Aside0.mk q1
      have Q2 := Aside0.mk q2
      have Q3 := Aside0.mk q3
      have Q4 := Aside0.mk q4
      have Q5 := Aside0.mk q5
      clear q1 q2 q3 q4 q5 hX y0 y1 y2 y3 y4 HQ
      go_wp2_with fail
      refine (HMt.out en.flt _).mono ?_
      rintro e W6 ⟨rfl, hbl⟩
      have ht := Turn.of_below hbl (fun _ => False)
      have R1 := Aside0.mk (Q1.out.turn ht (fun _ _ x => x))
      have R2 := Aside0.mk (ht.blk Q2.out (fun x => x))
      have R3 := Aside0.mk (Q3.out.turn ht (fun _ _ x => x))
      have R4 := Aside0.mk (Q4.out.trans (hbl.mono Q4.out.size))
      have R5 := Aside0.mk (ht.blk Q5.out (fun x => x))
      clear hbl ht Q1 Q2 Q3 Q4 Q5 b0 b1 b2 b3 f0 f1 f2
      have f0 : W6.cell? ⟨X, 0, none⟩ = some (.int .i64 en.owner) := (blk_cell R5.out 0).trans rfl
      have f1 : W6.cell? ⟨X, 1, none⟩ = some (.int .u32 en.flt.f0) := (blk_cell R5.out 1).trans rfl
      have f2 : W6.cell? ⟨X, 2, none⟩ = some (.int .u32 en.flt.f1) := (blk_cell R5.out 2).trans rfl
      have f3 : W6.cell? ⟨X, 3, none⟩ = some (.bool en.flt.f2) := (blk_cell R5.out 3).trans rfl
      have f4 : W6.cell? ⟨X, 4, none⟩ = some (.int .i64 en.since) := (blk_cell R5.out 4).trans rfl
      cases hm : mt en.flt with
      | true =>
        have HF := Aside0.mk (show ((restE r.L).take (j + 1)).filter (fun e => mt e.flt) = ((restE r.L).take j).filter (fun e => mt e.flt) ++ [en] by rw [HTk.out, List.filter_append]; simp [hm])
        clear hm
        have HLe := Aside0.mk (show (wordL r.L wd ++ ((restE r.L).take j).filter (fun e => mt e.flt)).length ≤ 102400 by
          rw [List.length_append]
          have h1 := List.length_filter_le (fun e : Ent => mt e.flt) ((restE r.L).take j)
          have h2 : ((restE r.L).take j).length ≤ (restE r.L).length := List.length_take_le' j _
          have := HLn.out
          omega)
        go_wp2_with (at_builtin; go_loud (refine Kd.R_append kEt (W := W6) (w0 := W6) 0 rfl (.tmp 45) (.tmp 47) 55 59 (.agg #[.int .i64 0, .int .u32 0, .int .u32 0, .bool false, .int .i64 0]) 32 rfl Try.underlying55 infoEn rfl (by decide) (by decide) u5 (wordL r.L wd ++ ((restE r.L).take j).filter (fun e => mt e.flt)) en _ (fun x => u5.ownBlock = some x ∨ W6.heap.size ≤ x) (fun _ => False) rfl rfl (kEt_mkM _ _ _ en) (fun _ hk => hk.elim) (fun x hx => .inr hx) (R1.out.R (fun x hx => .inl hx)) (Below.refl _ _) (Nat.zero_le _) (by have := HLe.out; omega) ?_))
        intro v8 w8 hR hB hg hat
        have T8 : Turn (fun k => u5.ownBlock = some k) W6 w8 := (Turn.refl _ W6).grown hg (fun k hk => .inl hk)
        have P1 := Aside0.mk (show RowX kEt 59 w8 v8 (wordL r.L wd ++ ((restE r.L).take (j + 1)).filter (fun e => mt e.flt)) by
          rw [HF.out]
          exact RowX.of_R kEtE hR)
        have P2 := Aside0.mk (show ∀ k, v8.ownBlock = some k → w.heap.size ≤ k from fun k hk => by
          rcases hat with h | ⟨b, hb, hl⟩
          · exact (HXu.out k (by rw [← h]; exact hk)).2.2
          · rw [hb] at hk
            cases hk
            exact Nat.le_trans R4.out.size hl)
        have P3 := Aside0.mk (T8.blk R2.out (fun e => (HXu.out B e).2.1 rfl))
        have P4 := Aside0.mk (R3.out.turn T8 (fun k hk e => by have h1 := HVs.out k hk; have h2 := (HXu.out k e).2.2; omega))
        have P5 := Aside0.mk ((((Turn.of_below R4.out (fun _ => False)).trans T8 (fun k hk => .inr (HXu.out k hk).2.2))).to_below)
        clear hR hB hg hat T8 f0 f1 f2 f3 f4
        go_wp2_with fail
        exact ⟨⟨j + 1, by omega, congrArg _ HW.out, ⟨P1.out, P2.out, P3.out, P4.out, P5.out⟩⟩, HM.out⟩
      | false =>
        have HF := Aside0.mk (show ((restE r.L).take (j + 1)).filter (fun e => mt e.flt) = ((restE r.L).take j).filter (fun e => mt e.flt) by rw [HTk.out, List.filter_append]; simp [hm])
        clear hm
        go_wp2_with fail
        exact ⟨⟨j + 1, by omega, congrArg _ HW.out, ⟨by rw [HF.out]; exact R1.out, fun k hk => (HXu.out k hk).2.2, R2.out, R3.out, R4.out⟩⟩, HM.out⟩
    · obtain rfl : j = (restE r.L).length := by omega
      have d1 : decide (((restE r.L).length : Int) < ((restE r.L).length : Int)) = false := decide_eq_false (by omega)
      have hq1 := HQ.out.1
      rw [List.take_length] at hq1
      have HQ1 := Aside0.mk hq1
      have HQ5 := Aside0.mk HQ.out.2.2.2.2
      have HQ2 := Aside0.mk HQ.out.2.1
      clear HQ hq1
      go_wp2_with fail
      refine (sort_calls HQ1.out (fun e he => ?_) (by rw [List.length_append]; have h1 := List.length_filter_le (fun e : Ent => mt e.flt) (restE r.L); have := HLn.out; omega)).mono ?_
      · have hm : e ∈ r.L := by
          rcases List.mem_append.1 he with h | h
          · exact (List.mem_filter.1 h).1
          · exact (List.mem_filter.1 (List.mem_filter.1 h).1).1
        have h1 := OK.out.since e hm
        have h2 := OK.out.s1
        omega
      rintro e W7 ⟨rfl, A7, c7, ys, b7, hv7, hA7, hp, hs, hC7, ht⟩
      have hD := found_sorted OK.out.order hp hs
      have hlen := hp.length_eq
      rw [hD] at hlen hC7
      rw [← hlen] at hv7 hA7 hC7
      have HL7 := Aside0.mk (show Below w.heap.size w W7 from ((Turn.of_below HQ5.out (fun _ => False)).trans ht (fun k hk => .inr (HQ2.out k hk))).to_below)
      have HO7 := Aside0.mk (show ∀ k, u5.ownBlock = some k → w.heap.size ≤ k from HQ2.out)
      have HU7 := Aside0.mk (show ∀ k, u5.ownBlock = some k → k < W7.heap.size from fun k hk => Nat.lt_of_lt_of_le (HQ1.out.lt hk) ht.size)
      subst hv7
      have HC7 := Aside0.mk hC7
      have HA7 := Aside0.mk hA7
      have HLh := Aside0.mk (show (hitsL wd mt r.L).length ≤ 51200 from Nat.le_trans (List.length_filter_le _ _) OK.out.len)
      clear hp hs hC7 ht hD hA7 hlen HQ1 HQ2 HQ5
      generalize hG : hitsL wd mt r.L = G at *
      have HGe := Aside0.mk hG
      clear hG
      go_wp2_with fail
      go_loopw [8, 54] (fun v8 v54 wr => ∃ j : Nat, j ≤ G.length ∧ v54 = .int .i64 j ∧ Aside0 (RowX (Kd.int .i64) 3 wr v8 ((G.take j).map (·.owner)) ∧ (∀ k, v8.ownBlock = some k → W7.heap.size ≤ k) ∧ Turn (fun _ => False) W7 wr)) (fun _ v _ => G.length + 1 - (intOf v).toNat)
      case atStart => exact ⟨0, by omega, rfl, ⟨RowX.nil _ _ _, fun k hk => by simp [Value.ownBlock] at hk, Turn.refl _ _⟩⟩
      case round =>
        obtain ⟨j, hj, rfl, HQ⟩ := hrel
        by_cases hjl : j < G.length
        · have d2 : decide ((j : Int) < (G.length : Int)) = true := decide_eq_true (by omega)
          have j1 : (j : Int) < (G.length : Int) := by omega
          have HW := Aside0.mk (show wrap64 ((j : Int) + 1) = ((j + 1 : Nat) : Int) from wrap_succ j (by have := HLh.out; omega))
          have HM := Aside0.mk (meas_succ hjl (by have := HLh.out; omega))
          obtain ⟨en, hen⟩ : ∃ en, G[j]? = some en := ⟨_, List.getElem?_eq_getElem hjl⟩
          obtain rfl := HA7.out (by omega)
          obtain ⟨ad, had, y0, y1, y2, y3, y4⟩ := at_Et (Kd.C_below HC7.out HQ.out.2.2.to_below) j hen
          cases had
          rw [add_plain] at y0 y1 y2 y3 y4
          have HTk := Aside0.mk (show (G.take (j + 1)).map (·.owner) = (G.take j).map (·.owner) ++ [en.owner] by rw [List.take_add_one, hen]; simp)
          clear hen
          go_upto_region 15 with (fail)
          obtain ⟨X, hX⟩ : ∃ X, X = wr.heap.size := ⟨_, rfl⟩
          rw [← hX]
          refine wp_world (fun W => RowX (Kd.int .i64) 3 W u8 ((G.take j).map (·.owner)) ∧ Turn (fun _ => False) W7 W ∧ W.heap[X]? = some (.cells #[.int .i64 en.owner, .int .u32 en.flt.f0, .int .u32 en.flt.f1, .bool en.flt.f2, .int .i64 en.since] 59 (0, 0))) ⟨HQ.out.1.turn ((Turn.refl (fun _ => False) wr).alloc _) (fun _ _ x => x), HQ.out.2.2.alloc _, by rw [hX]; exact blk_new _ _⟩ ?_
          rintro W8 ⟨q1, q2, q3⟩
          have f0 : W8.cell? ⟨X, 0, none⟩ = some (.int .i64 en.owner) := (blk_cell q3 0).trans rfl
          have Q1 := Aside0.mk q1
          have Q2 := Aside0.mk q2
          have HN := Aside0.mk HQ.out.2.1
          clear q1 q2 q3 hX y0 y1 y2 y3 y4 HQ
          have HLt := Aside0.mk (show ((G.take j).map (·.owner)).length ≤ 51200 by have := HLh.out; rw [List.length_map, List.length_take]; omega)
          go_wp2_with (at_builtin; go_loud (refine Kd.R_append (Kd.int .i64) (W := W8) (w0 := W8) 0 rfl (.tmp 58) (.tmp 61) 44 3 (.int .i64 0) 8 rfl Try.underlying44 info3 rfl (by decide) (by decide) u8 ((G.take j).map (·.owner)) en.owner _ (fun x => u8.ownBlock = some x ∨ W8.heap.size ≤ x) (fun _ => False) rfl rfl rfl (fun _ hk => hk.elim) (fun x hx => .inr hx) (Q1.out.R (fun x hx => .inl hx)) (Below.refl _ _) (Nat.zero_le _) (by have := HLt.out; omega) ?_))
          intro v8 w8 hR hB hg hat
          have T8 : Turn (fun k => u8.ownBlock = some k) W8 w8 := (Turn.refl _ W8).grown hg (fun k hk => .inl hk)
          have P1 := Aside0.mk (show RowX (Kd.int .i64) 3 w8 v8 ((G.take (j + 1)).map (·.owner)) by
            rw [HTk.out, List.map_take]
            exact RowX.of_R rfl hR)
          have P2 := Aside0.mk (show ∀ k, v8.ownBlock = some k → W7.heap.size ≤ k from fun k hk => by
            rcases hat with h | ⟨b, hb, hl⟩
            · exact HN.out k (by rw [← h]; exact hk)
            · rw [hb] at hk
              cases hk
              exact Nat.le_trans Q2.out.size hl)
          have P3 := Aside0.mk (Q2.out.trans T8 (fun k hk => .inr (HN.out k hk)))
          clear hR hB hg hat T8 f0
          go_wp2_with fail
          exact ⟨⟨j + 1, by omega, congrArg _ HW.out, ⟨P1.out, P2.out, P3.out⟩⟩, HM.out⟩
        · obtain rfl : j = G.length := by omega
          have d2 : decide ((G.length : Int) < (G.length : Int)) = false := decide_eq_false (by omega)
          have hq := HQ.out.1
          rw [List.take_length] at hq
          have Q1 := Aside0.mk hq
          clear hq
          go_wp2_with fail
          go_ret
          exact ⟨u8, rfl, by rw [HGe.out]; exact Q1.out, fun k hk => Nat.le_trans HL7.out.size (HQ.out.2.1 k hk), HL7.out.trans ((HQ.out.2.2.to_below).mono HL7.out.size)⟩
end Go.Proofs.Ytaninnkhdhpcgaa.P
