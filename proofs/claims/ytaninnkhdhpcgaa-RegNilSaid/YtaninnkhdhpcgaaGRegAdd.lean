/- A register of entries: Add; no conditions beyond small numbers. -/
import Derived.Test.YtaninnkhdhpcgaaGReg
namespace Go.Proofs.Ytaninnkhdhpcgaa.P
open Go.RowKit Go.Maps Go.Proofs.YtaninnkhdhpcgaaW.PrintWords Go.Proofs.YtaninnkhdhpcgaaW.PrintLast Go.Proofs.YtaninnkhdhpcgaaW.PrintMore
set_option linter.unusedVariables false
set_option linter.unusedSimpArgs false

set_option maxHeartbeats 8000000 in
set_option maxRecDepth 100000 in
theorem reg_Add_nil (owner : Int) (f : Flt) (w : World) : Calls Try.prog 9 #[.pointer none, .int .i64 owner, fltV f] w fun e w' => e = .returned (.int .i64 1) ∧ Below w.heap.size w w' := by
  unfold fltV
  go_enter Try.func9, Try.ntmps9
  go_wp2_with fail
  go_ret
  exact ⟨rfl, below_alloc (Below.refl _ _) _⟩
set_option maxHeartbeats 8000000 in
set_option maxRecDepth 100000 in
theorem reg_Add_full {w : World} {g : Nat} {r : RGv} {S : Nat → Prop} (owner : Int) (f : Flt) (hl : r.L.length = 51200) (h : IsReg g r w S) : Calls Try.prog 9 #[.pointer (some ⟨g, 0, none⟩), .int .i64 owner, fltV f] w fun e w' => e = .returned (.int .i64 9) ∧ Below w.heap.size w w' := by
  obtain ⟨mb, s, F, v, h⟩ := h
  have c3 : w.cell? ⟨g, 3, none⟩ = some (.int .i64 51200) := by
    have := h.c3
    rw [hl] at this
    exact this
  have d1 : decide ((51200 : Int) ≥ 51200) = true := rfl
  unfold fltV
  clear h hl
  go_enter Try.func9, Try.ntmps9
  go_upto_region 1 with (fail)
  refine wp_world (fun W => W.cell? ⟨g, 3, none⟩ = some (.int .i64 51200) ∧ Below w.heap.size w W) ⟨((Turn.refl (fun _ => False) w).alloc _).cell c3 (fun x => x), below_alloc (Below.refl _ _) _⟩ ?_
  clear c3
  rintro W1 ⟨c3, hb⟩
  have HB := Aside0.mk hb
  clear hb
  go_wp2_with fail
  go_ret
  exact ⟨rfl, HB.out⟩
set_option maxHeartbeats 8000000 in
set_option maxRecDepth 100000 in
theorem reg_Add {w : World} {g : Nat} {r : RGv} {S : Nat → Prop} (owner : Int) (f : Flt) (hw : (Lit.int .u32 f.f0).wf = true) (ok : ROk r) (hl : r.L.length < 51200) (hs : r.since < 1125899906842624) (h : IsReg g r w S) :
    Calls Try.prog 9 #[.pointer (some ⟨g, 0, none⟩), .int .i64 owner, fltV f] w fun e w' => e = .returned (.int .i64 0) ∧ ∃ S', IsReg g (addR r owner f) w' S' ∧ Turn S w w' ∧ (∀ k, S' k → S k ∨ w.heap.size ≤ k) := by
  obtain ⟨mb, s, F, v, h⟩ := h
  have H := Aside0.mk h
  have OK := Aside0.mk ok
  have HWf := Aside0.mk hw
  have d1 : decide ((r.L.length : Int) ≥ 51200) = false := decide_eq_false (by omega)
  have HL := Aside0.mk hl
  have w1' : wrap64 (r.since + 1) = r.since + 1 := w64_small _ (by have := ok.s0; omega) (by have := ok.s1; omega)
  have w2' : wrap64 ((r.L.length : Int) + 1) = ((r.L.length + 1 : Nat) : Int) := wrap_succ _ (by omega)
  have HSs := Aside0.mk hs
  have c3 := h.c3
  unfold fltV
  clear h ok hl hs hw
  go_enter Try.func9, Try.ntmps9
  go_upto_region 1 with (fail)
  obtain ⟨B, hB⟩ : ∃ B, B = w.heap.size := ⟨_, rfl⟩
  rw [← hB]
  refine wp_world (fun W => RegI W g mb s F v r.L r.since r.L.length S ∧ W.heap[B]? = some (.cells #[.int .u32 f.f0, .int .u32 f.f1, .bool f.f2] 24 (0, 0)) ∧ Turn S w W ∧ Turn (fun _ => False) w W) ⟨H.out.turn ((Turn.refl (fun _ => False) w).alloc _) (fun _ _ x => x), by rw [hB]; exact blk_new _ _, (Turn.refl S w).alloc _, (Turn.refl _ w).alloc _⟩ ?_
  rintro W1 ⟨hi, hb, ht, ht0⟩
  have H1 := Aside0.mk hi
  have HB1 := Aside0.mk hb
  have HT1 := Aside0.mk ht
  have HBs := Aside0.mk (show ∀ k, S k → k ≠ B from fun k hk e => by have := H.out.lt k hk; omega)
  have HBn := Aside0.mk (Nat.le_of_eq hB.symm)
  have c3 := hi.c3
  have c2 := hi.c2
  have b0 : W1.cell? ⟨B, 0, none⟩ = some (.int .u32 f.f0) := (blk_cell hb 0).trans rfl
  have b1 : W1.cell? ⟨B, 1, none⟩ = some (.int .u32 f.f1) := (blk_cell hb 1).trans rfl
  have b2 : W1.cell? ⟨B, 2, none⟩ = some (.bool f.f2) := (blk_cell hb 2).trans rfl
  clear hi hb ht ht0 hB
  go_upto_region 5 with (fail)
  refine start_ (n := 9) (S := fun w' => w'.cell? ⟨B, 0, none⟩ = some (.int .u32 f.f0) ∧ w'.cell? ⟨B, 1, none⟩ = some (.int .u32 f.f1) ∧ w'.cell? ⟨B, 2, none⟩ = some (.bool f.f2) ∧ w'.cell? ⟨g, 2, none⟩ = some (.int .i64 r.since)) (ds := [8]) #[false, false, false, false, false, false, false, false, false] (by kernel_rfl) rfl rfl ⟨b0, b1, b2, c2⟩ (fun hHeld => ?_)
  refine pure_ (i := 0) (N := some 17) (v := ?_) (a' := ?_) #[true, false, false, false, false, false, false, false, false] rfl rfl (by kernel_rfl) (fun _ _ _ h => h) (Or.inl ⟨by rfl, ?_⟩) ?_ ?_
  rotate_left
  · intro w'
    go_simp
    with_reducible rfl
  rotate_left
  · simp only [Act.put, List.setIfInBounds_toArray, List.set_cons_zero, List.set_cons_succ, i64_w, i32_w]
    rfl
  refine pure_ (i := 2) (N := some 19) (v := ?_) (a' := ?_) #[true, false, true, false, false, false, false, false, false] rfl rfl (by kernel_rfl) (fun _ _ _ h => h) (Or.inl ⟨by rfl, ?_⟩) ?_ ?_
  rotate_left
  · intro w'
    go_simp
    with_reducible rfl
  rotate_left
  · simp only [Act.put, List.setIfInBounds_toArray, List.set_cons_zero, List.set_cons_succ, i64_w, i32_w]
    rfl
  refine pure_ (i := 3) (N := some 20) (v := ?_) (a' := ?_) #[true, false, true, true, false, false, false, false, false] rfl rfl (by kernel_rfl) (fun _ _ _ h => h) (Or.inl ⟨by rfl, ?_⟩) ?_ ?_
  rotate_left
  · intro w'
    go_simp
    with_reducible rfl
  rotate_left
  · simp only [Act.put, List.setIfInBounds_toArray, List.set_cons_zero, List.set_cons_succ, i64_w, i32_w]
    rfl
  refine pure_ (i := 4) (N := some 21) (v := ?_) (a' := ?_) #[true, false, true, true, true, false, false, false, false] rfl rfl (by kernel_rfl) (fun _ _ _ h => h) (Or.inl ⟨by rfl, ?_⟩) ?_ ?_
  rotate_left
  · intro w'
    go_simp
    with_reducible rfl
  rotate_left
  · simp only [Act.put, List.setIfInBounds_toArray, List.set_cons_zero, List.set_cons_succ, i64_w, i32_w]
    rfl
  refine take_ (i := 1) (N := some 18) (v := ?_) (a' := ?_) #[true, true, true, true, true, false, false, false, false] rfl rfl (by kernel_rfl) (fun _ _ _ h => h) (Or.inl ⟨by rfl, ?_⟩) hHeld ?_ ?_
  rotate_left
  · rintro w' ⟨s0, s1, s2, s3⟩
    go_simp
    with_reducible rfl
  rotate_left
  · simp only [Act.put, List.setIfInBounds_toArray, List.set_cons_zero, List.set_cons_succ, i64_w, i32_w]
    rfl
  refine take_ (i := 5) (N := some 22) (v := ?_) (a' := ?_) #[true, true, true, true, true, true, false, false, false] rfl rfl (by kernel_rfl) (fun _ _ _ h => h) (Or.inl ⟨by rfl, ?_⟩) hHeld ?_ ?_
  rotate_left
  · rintro w' ⟨s0, s1, s2, s3⟩
    go_simp
    with_reducible rfl
  rotate_left
  · simp only [Act.put, List.setIfInBounds_toArray, List.set_cons_zero, List.set_cons_succ, i64_w, i32_w]
    rfl
  refine pure_ (i := 6) (N := some 23) (v := ?_) (a' := ?_) #[true, true, true, true, true, true, true, false, false] rfl rfl (by kernel_rfl) (fun _ _ _ h => h) (Or.inl ⟨by rfl, ?_⟩) ?_ ?_
  rotate_left
  · intro w'
    go_simp
    with_reducible rfl
  rotate_left
  · simp only [Act.put, List.setIfInBounds_toArray, List.set_cons_zero, List.set_cons_succ, i64_w, i32_w]
    rfl
  refine one_ (i := 7) (N := some 7) #[true, true, true, true, true, true, true, true, false] rfl rfl (by kernel_rfl) (by decide) (fun K hK => ?_)
  refine value_ (w1 := ?_) (v := ?_) (by rfl) rfl ?_ ?_
  rotate_left 2
  · go_simp
    constructor
    · rfl
    · rfl
  refine hK.out _ _ ⟨(((Turn.refl (fun _ => False) W1).drew.alloc _).cell b0 (fun x => x)), (((Turn.refl (fun _ => False) W1).drew.alloc _).cell b1 (fun x => x)), (((Turn.refl (fun _ => False) W1).drew.alloc _).cell b2 (fun x => x)), (((Turn.refl (fun _ => False) W1).drew.alloc _).cell c2 (fun x => x))⟩ (fun hHeld => ?_)
  clear hK K
  refine norm_ (a' := ?_) ?_ ?_
  rotate_left
  · show Act.put _ (some 7) _ = _
    simp only [Act.put, List.setIfInBounds_toArray, List.set_cons_zero, List.set_cons_succ, i64_w, i32_w]
    rfl
  refine last_ (i := 8) (N := none) #[true, true, true, true, true, true, true, true, true] rfl rfl (by kernel_rfl) (by decide) (fun K hK => ?_)
  refine skip_ (w1 := ?_) (by rfl) rfl ?_ ?_
  rotate_left
  · go_simp
    rfl
  refine hK.out _ _ ?_
  clear hK K
  refine done_ (by kernel_rfl) ?_
  simp only [Exit.then]
  apply_assumption
  have HXn := Aside0.mk (show ∃ X, X = W1.heap.size from ⟨_, rfl⟩)
  obtain ⟨X, hX⟩ := HXn.out
  rw [← hX]
  refine wp_world (fun W => RegI W g mb s F v r.L r.since r.L.length S ∧ W.heap[B]? = some (.cells #[.int .u32 f.f0, .int .u32 f.f1, .bool f.f2] 24 (0, 0)) ∧ W.heap[X]? = some (.cells #[.int .i64 owner, .int .u32 f.f0, .int .u32 f.f1, .bool f.f2, .int .i64 r.since] 59 (0, 0)) ∧ Turn S w W) ⟨H1.out.turn ((Turn.refl (fun _ => False) W1).alloc _).drew (fun _ _ x => x), ((Turn.refl (fun _ => False) W1).alloc _).drew.blk HB1.out (fun x => x), by rw [hX]; exact blk_new W1 _, (HT1.out.alloc _).drew⟩ ?_
  rintro W2 ⟨hi, hb, hx, ht⟩
  have H2 := Aside0.mk hi
  have HB2 := Aside0.mk hb
  have HX2 := Aside0.mk hx
  have HT2 := Aside0.mk ht
  have HXs := Aside0.mk (show (∀ k, S k → k ≠ X) ∧ X ≠ B ∧ w.heap.size ≤ X from ⟨fun k hk e => by have := H1.out.lt k hk; omega, by have := blk_lt HB1.out; omega, by rw [hX]; exact HT1.out.size⟩)
  have z := fun j => blk_frozen hi.hb j
  have c2 := hi.c2
  have c3 := hi.c3
  clear hi hb hx ht hX b0 b1 b2 HXn H1 HB1 HT1
  clear hHeld
  try clear hHeld
  go_upto_region 8 with (fail)
  rw [w1', w2']
  clear w1' w2' c2 c3 z
  refine wp_world (fun W => RegI W g mb s F v r.L (r.since + 1) ((r.L.length + 1 : Nat) : Int) S ∧ W.heap[B]? = some (.cells #[.int .u32 f.f0, .int .u32 f.f1, .bool f.f2] 24 (0, 0)) ∧ W.heap[X]? = some (.cells #[.int .i64 owner, .int .u32 f.f0, .int .u32 f.f1, .bool f.f2, .int .i64 r.since] 59 (0, 0)) ∧ Turn S w W) ?_ ?_
  · have hg := blk_set (blk_set H2.out.hb 2 (.int .i64 (r.since + 1))) 3 (.int .i64 ((r.L.length + 1 : Nat) : Int))
    simp only [List.setIfInBounds_toArray, List.set_cons_zero, List.set_cons_succ] at hg
    have tg := (((Turn.refl (fun k => k = g) W2).setCell (p := ⟨g, 2, none⟩) (.inl rfl) (.int .i64 (r.since + 1))).setCell (p := ⟨g, 3, none⟩) (.inl rfl) (.int .i64 ((r.L.length + 1 : Nat) : Int)))
    exact ⟨H2.out.nums (by omega) hg tg, tg.blk HB2.out (fun e => HBs.out g H2.out.sg e.symm), tg.blk HX2.out (fun e => HXs.out.1 g H2.out.sg e.symm), HT2.out.trans tg (fun k hk => .inl (hk ▸ H2.out.sg))⟩
  rintro W3 ⟨hi, hb, hx, ht⟩
  have b0 : W3.cell? ⟨B, 0, none⟩ = some (.int .u32 f.f0) := (blk_cell hb 0).trans rfl
  have b1 : W3.cell? ⟨B, 1, none⟩ = some (.int .u32 f.f1) := (blk_cell hb 1).trans rfl
  have b2 : W3.cell? ⟨B, 2, none⟩ = some (.bool f.f2) := (blk_cell hb 2).trans rfl
  have H3 := Aside0.mk hi
  have HB3 := Aside0.mk hb
  have HX3 := Aside0.mk hx
  have HT3 := Aside0.mk ht
  have hu := Try.underlying24
  have hu2 := Try.underlying59
  clear hi hb hx ht H2 HB2 HX2 HT2
  go_wp2_with fail
  refine (reg_single.calls f.f0 f.f1 f.f2 _ _ (single_f f)).mono ?_
  rintro e W4 ⟨rfl, hbl⟩
  have ht0 := Turn.of_below hbl (fun _ => False)
  have hi := H3.out.turn ht0 (fun _ _ x => x)
  have hb := ht0.blk HB3.out (fun x => x)
  have hx := ht0.blk HX3.out (fun x => x)
  have H4 := Aside0.mk hi
  have HT4 := Aside0.mk (HT3.out.step hbl)
  clear b0 b1 b2
  have b0 : W4.cell? ⟨B, 0, none⟩ = some (.int .u32 f.f0) := (blk_cell hb 0).trans rfl
  have x0 : W4.cell? ⟨X, 0, none⟩ = some (.int .i64 owner) := (blk_cell hx 0).trans rfl
  have x1 : W4.cell? ⟨X, 1, none⟩ = some (.int .u32 f.f0) := (blk_cell hx 1).trans rfl
  have x2 : W4.cell? ⟨X, 2, none⟩ = some (.int .u32 f.f1) := (blk_cell hx 2).trans rfl
  have x3 : W4.cell? ⟨X, 3, none⟩ = some (.bool f.f2) := (blk_cell hx 3).trans rfl
  have x4 : W4.cell? ⟨X, 4, none⟩ = some (.int .i64 r.since) := (blk_cell hx 4).trans rfl
  have c0 := hi.c0
  have c1 := hi.c1
  have z := fun j => blk_frozen hi.hb j
  clear hi hb hx ht0 hbl H3 HB3 HX3 HT3
  cases ho : isOne f with
  | true =>
    have HO := Aside0.mk ho
    have HLk := Aside0.mk (show ∀ w', Turn (fun _ => False) W4 w' → (Instr.lookup 54 (.map (some mb)) (.int .u32 f.f0) false).run Try.prog w' = .ok (sl0 (F f.f0)) w' from fun w' ht' => (H4.out.map.turn ht' (fun x => x)).mapI.look Try.underlying22 Try.underlying54 (zero55 _) HWf.out)
    clear ho
    go_upto_region 9 with (fail)
    refine start_ (n := 17) (S := fun w' => w'.cell? ⟨g, 0, none⟩ = some (.map (some mb)) ∧ w'.cell? ⟨B, 0, none⟩ = some (.int .u32 f.f0) ∧ (Instr.lookup 54 (.map (some mb)) (.int .u32 f.f0) false).run Try.prog w' = .ok (sl0 (F f.f0)) w' ∧ w'.cell? ⟨X, 0, none⟩ = some (.int .i64 owner) ∧ w'.cell? ⟨X, 1, none⟩ = some (.int .u32 f.f0) ∧ w'.cell? ⟨X, 2, none⟩ = some (.int .u32 f.f1) ∧ w'.cell? ⟨X, 3, none⟩ = some (.bool f.f2) ∧ w'.cell? ⟨X, 4, none⟩ = some (.int .i64 r.since)) (ds := [16]) #[false, false, false, false, false, false, false, false, false, false, false, false, false, false, false, false, false] (by kernel_rfl) rfl rfl ⟨c0, b0, HLk.out _ (Turn.refl _ _).drew, x0, x1, x2, x3, x4⟩ (fun hHeld => ?_)
    refine pure_ (i := 0) (N := some 40) (v := ?_) (a' := ?_) #[true, false, false, false, false, false, false, false, false, false, false, false, false, false, false, false, false] rfl rfl (by kernel_rfl) (fun _ _ _ h => h) (Or.inl ⟨by rfl, ?_⟩) ?_ ?_
    rotate_left
    · intro w'
      go_simp
      with_reducible rfl
    rotate_left
    · simp only [Act.put, List.setIfInBounds_toArray, List.set_cons_zero, List.set_cons_succ, i64_w, i32_w]
      rfl
    refine pure_ (i := 1) (N := some 41) (v := ?_) (a' := ?_) #[true, true, false, false, false, false, false, false, false, false, false, false, false, false, false, false, false] rfl rfl (by kernel_rfl) (fun _ _ _ h => h) (Or.inl ⟨by rfl, ?_⟩) ?_ ?_
    rotate_left
    · intro w'
      go_simp
      with_reducible rfl
    rotate_left
    · simp only [Act.put, List.setIfInBounds_toArray, List.set_cons_zero, List.set_cons_succ, i64_w, i32_w]
      rfl
    refine pure_ (i := 2) (N := some 42) (v := ?_) (a' := ?_) #[true, true, true, false, false, false, false, false, false, false, false, false, false, false, false, false, false] rfl rfl (by kernel_rfl) (fun _ _ _ h => h) (Or.inl ⟨by rfl, ?_⟩) ?_ ?_
    rotate_left
    · intro w'
      go_simp
      with_reducible rfl
    rotate_left
    · simp only [Act.put, List.setIfInBounds_toArray, List.set_cons_zero, List.set_cons_succ, i64_w, i32_w]
      rfl
    refine pure_ (i := 4) (N := some 44) (v := ?_) (a' := ?_) #[true, true, true, false, true, false, false, false, false, false, false, false, false, false, false, false, false] rfl rfl (by kernel_rfl) (fun _ _ _ h => h) (Or.inl ⟨by rfl, ?_⟩) ?_ ?_
    rotate_left
    · intro w'
      go_simp
      with_reducible rfl
    rotate_left
    · simp only [Act.put, List.setIfInBounds_toArray, List.set_cons_zero, List.set_cons_succ, i64_w, i32_w]
      rfl
    refine pure_ (i := 6) (N := some 46) (v := ?_) (a' := ?_) #[true, true, true, false, true, false, true, false, false, false, false, false, false, false, false, false, false] rfl rfl (by kernel_rfl) (fun _ _ _ h => h) (Or.inl ⟨by rfl, ?_⟩) ?_ ?_
    rotate_left
    · intro w'
      go_simp
      with_reducible rfl
    rotate_left
    · simp only [Act.put, List.setIfInBounds_toArray, List.set_cons_zero, List.set_cons_succ, i64_w, i32_w]
      rfl
    refine pure_ (i := 7) (N := some 47) (v := ?_) (a' := ?_) #[true, true, true, false, true, false, true, true, false, false, false, false, false, false, false, false, false] rfl rfl (by kernel_rfl) (fun _ _ _ h => h) (Or.inl ⟨by rfl, ?_⟩) ?_ ?_
    rotate_left
    · intro w'
      go_simp
      with_reducible rfl
    rotate_left
    · simp only [Act.put, List.setIfInBounds_toArray, List.set_cons_zero, List.set_cons_succ, i64_w, i32_w]
      rfl
    refine pure_ (i := 8) (N := some 48) (v := ?_) (a' := ?_) #[true, true, true, false, true, false, true, true, true, false, false, false, false, false, false, false, false] rfl rfl (by kernel_rfl) (fun _ _ _ h => h) (Or.inl ⟨by rfl, ?_⟩) ?_ ?_
    rotate_left
    · intro w'
      go_simp
      with_reducible rfl
    rotate_left
    · simp only [Act.put, List.setIfInBounds_toArray, List.set_cons_zero, List.set_cons_succ, i64_w, i32_w]
      rfl
    refine pure_ (i := 10) (N := some 50) (v := ?_) (a' := ?_) #[true, true, true, false, true, false, true, true, true, false, true, false, false, false, false, false, false] rfl rfl (by kernel_rfl) (fun _ _ _ h => h) (Or.inl ⟨by rfl, ?_⟩) ?_ ?_
    rotate_left
    · intro w'
      go_simp
      with_reducible rfl
    rotate_left
    · simp only [Act.put, List.setIfInBounds_toArray, List.set_cons_zero, List.set_cons_succ, i64_w, i32_w]
      rfl
    refine take_ (i := 3) (N := some 43) (v := ?_) (a' := ?_) #[true, true, true, true, true, false, true, true, true, false, true, false, false, false, false, false, false] rfl rfl (by kernel_rfl) (fun _ _ _ h => h) (Or.inl ⟨by rfl, ?_⟩) hHeld ?_ ?_
    rotate_left
    · rintro w' ⟨s0, s1, s2, s3, s4, s5, s6, s7⟩
      go_simp
      with_reducible rfl
    rotate_left
    · simp only [Act.put, List.setIfInBounds_toArray, List.set_cons_zero, List.set_cons_succ, i64_w, i32_w]
      rfl
    refine take_ (i := 5) (N := some 45) (v := ?_) (a' := ?_) #[true, true, true, true, true, true, true, true, true, false, true, false, false, false, false, false, false] rfl rfl (by kernel_rfl) (fun _ _ _ h => h) (Or.inl ⟨by rfl, ?_⟩) hHeld ?_ ?_
    rotate_left
    · rintro w' ⟨s0, s1, s2, s3, s4, s5, s6, s7⟩
      go_simp
      with_reducible rfl
    rotate_left
    · simp only [Act.put, List.setIfInBounds_toArray, List.set_cons_zero, List.set_cons_succ, i64_w, i32_w]
      rfl
    refine take_ (i := 9) (N := some 49) (v := ?_) (a' := ?_) #[true, true, true, true, true, true, true, true, true, true, true, false, false, false, false, false, false] rfl rfl (by kernel_rfl) (fun _ _ _ h => h) (Or.inl ⟨by rfl, ?_⟩) hHeld ?_ ?_
    rotate_left
    · rintro w' ⟨s0, s1, s2, s3, s4, s5, s6, s7⟩
      go_simp
      with_reducible rfl
    rotate_left
    · simp only [Act.put, List.setIfInBounds_toArray, List.set_cons_zero, List.set_cons_succ, i64_w, i32_w]
      rfl
    refine take_ (i := 11) (N := some 51) (v := ?_) (a' := ?_) #[true, true, true, true, true, true, true, true, true, true, true, true, false, false, false, false, false] rfl rfl (by kernel_rfl) (fun _ _ _ h => h) (Or.inl ⟨by rfl, ?_⟩) hHeld ?_ ?_
    rotate_left
    · rintro w' ⟨s0, s1, s2, s3, s4, s5, s6, s7⟩
      go_simp
      with_reducible rfl
    rotate_left
    · simp only [Act.put, List.setIfInBounds_toArray, List.set_cons_zero, List.set_cons_succ, i64_w, i32_w]
      rfl
    refine take_ (i := 12) (N := some 52) (v := ?_) (a' := ?_) #[true, true, true, true, true, true, true, true, true, true, true, true, true, false, false, false, false] rfl rfl (by kernel_rfl) (fun _ _ _ h => h) (Or.inl ⟨by rfl, ?_⟩) hHeld ?_ ?_
    rotate_left
    · rintro w' ⟨s0, s1, s2, s3, s4, s5, s6, s7⟩
      go_simp
      with_reducible rfl
    rotate_left
    · simp only [Act.put, List.setIfInBounds_toArray, List.set_cons_zero, List.set_cons_succ, i64_w, i32_w]
      rfl
    refine take_ (i := 13) (N := some 53) (v := ?_) (a' := ?_) #[true, true, true, true, true, true, true, true, true, true, true, true, true, true, false, false, false] rfl rfl (by kernel_rfl) (fun _ _ _ h => h) (Or.inl ⟨by rfl, ?_⟩) hHeld ?_ ?_
    rotate_left
    · rintro w' ⟨s0, s1, s2, s3, s4, s5, s6, s7⟩
      go_simp
      with_reducible rfl
    rotate_left
    · simp only [Act.put, List.setIfInBounds_toArray, List.set_cons_zero, List.set_cons_succ, i64_w, i32_w]
      rfl
    refine one_ (i := 14) (N := some 54) #[true, true, true, true, true, true, true, true, true, true, true, true, true, true, true, false, false] rfl rfl (by kernel_rfl) (by decide) (fun K hK => ?_)
    refine value_ (w1 := ?_) (v := ?_) (by rfl) rfl ?_ ?_
    rotate_left 2
    · go_simp
      constructor
      · rfl
      · rfl
    refine hK.out _ _ ⟨(((Turn.refl (fun _ => False) W4).drew.alloc _).cell c0 (fun x => x)), (((Turn.refl (fun _ => False) W4).drew.alloc _).cell b0 (fun x => x)), (HLk.out _ ((Turn.refl _ _).drew.alloc _)), (((Turn.refl (fun _ => False) W4).drew.alloc _).cell x0 (fun x => x)), (((Turn.refl (fun _ => False) W4).drew.alloc _).cell x1 (fun x => x)), (((Turn.refl (fun _ => False) W4).drew.alloc _).cell x2 (fun x => x)), (((Turn.refl (fun _ => False) W4).drew.alloc _).cell x3 (fun x => x)), (((Turn.refl (fun _ => False) W4).drew.alloc _).cell x4 (fun x => x))⟩ (fun hHeld => ?_)
    clear hK K
    refine norm_ (a' := ?_) ?_ ?_
    rotate_left
    · show Act.put _ (some 54) _ = _
      simp only [Act.put, List.setIfInBounds_toArray, List.set_cons_zero, List.set_cons_succ, i64_w, i32_w]
      rfl
    refine one_ (i := 15) (N := some 55) #[true, true, true, true, true, true, true, true, true, true, true, true, true, true, true, true, false] rfl rfl (by kernel_rfl) (by decide) (fun K hK => ?_)
    have hO := ((H4.out.word f.f0).keep (w1 := W4.drew) (fun _ _ => rfl)).R (ok := fun k => (sl0 (F f.f0)).ownBlock = some k ∨ W4.heap.size ≤ k) (fun k hk => .inl hk)
    refine Kd.R_append_step (w0 := W4.drew) (W := W4.drew) kEt 0 (by rfl) _ _ 55 59 (.agg #[.int .i64 0, .int .u32 0, .int .u32 0, .bool false, .int .i64 0]) 32 rfl Try.underlying55 infoEn rfl (by decide) (by decide) (sl0 (F f.f0)) (wordL r.L f.f0) ⟨owner, f, r.since⟩ _ (fun k => (sl0 (F f.f0)).ownBlock = some k ∨ W4.heap.size ≤ k) (fun _ => False) rfl rfl (kEt_mkM _ _ _ ⟨owner, f, r.since⟩) (fun _ hk => hk.elim) (fun k hk => .inr hk) hO (Below.refl _ _) (Nat.zero_le _) (by have := word_len r.L f.f0; have := HL.out; omega) ?_
    intro v1 w3 hR3 _ hg3 hat3
    have hT3 : Turn (fun k => (sl0 (F f.f0)).ownBlock = some k) W4 w3 := ((Turn.refl _ W4).drew).grown hg3 (fun k hk => .inl hk)
    have hX3 := RowX.of_R kEtE hR3
    have hCX : ¬ (sl0 (F f.f0)).ownBlock = some X := fun e => HXs.out.1 X (H4.out.sr f.f0 X e) rfl
    have hCB : ¬ (sl0 (F f.f0)).ownBlock = some B := fun e => HBs.out B (H4.out.sr f.f0 B e) rfl
    have hM3 := H4.out.map.turn hT3 (fun e => H4.out.wm f.f0 e)
    refine hK.out _ _ ⟨(hT3.cell c0 (fun e => H4.out.wg f.f0 e)), (hT3.cell b0 hCB), (hM3.mapI.look Try.underlying22 Try.underlying54 (zero55 _) HWf.out), (hT3.cell x0 hCX), (hT3.cell x1 hCX), (hT3.cell x2 hCX), (hT3.cell x3 hCX), (hT3.cell x4 hCX)⟩ (fun hHeld => ?_)
    clear hK K
    refine norm_ (a' := ?_) ?_ ?_
    rotate_left
    · show Act.put _ (some 55) _ = _
      simp only [Act.put, List.setIfInBounds_toArray, List.set_cons_zero, List.set_cons_succ, i64_w, i32_w]
      rfl
    refine last_ (i := 16) (N := none) #[true, true, true, true, true, true, true, true, true, true, true, true, true, true, true, true, true] rfl rfl (by kernel_rfl) (by decide) (fun K hK => ?_)
    obtain ⟨w4, hrun, hM4, hT4⟩ := hM3.store Try.underlying22 Try.underlying54 (by have := H4.out.hs; have := HSs.out; unfold maxLen; omega) HWf.out v1
    refine skip_ (w1 := w4) (by rfl) rfl ?_ ?_
    · go_simp
    refine hK.out _ _ ?_
    clear hK K
    refine done_ (by kernel_rfl) ?_
    have hs' : (((if (F f.f0).isSome = true then s else s + 1) : Nat) : Int) ≤ r.since + 1 := by
      have := H.out.hs
      split <;> omega
    have hP := Aside0.mk (H4.out.put (L' := r.L ++ [⟨owner, f, r.since⟩]) (id := f.f0) (by rw [wordL_add, if_pos ⟨HO.out, rfl⟩]; exact hX3) hT3 hat3 hM4 ((Turn.refl _ w3).map hT4 (.inl rfl)) hs' (fun i hi => by rw [wordL_add, if_neg (fun h => hi h.2.symm)]) (by rw [restE_add, if_pos HO.out]))
    clear hHeld
    clear hrun hM4 hT4 hM3 hCX hCB hX3 hT3 hat3 hg3 hR3 hO hs' c0 c1 b0 x0 x1 x2 x3 x4 z
    go_wp2_with fail
    go_ret
    have hln : ((r.L.length + 1 : Nat) : Int) = (((addR r owner f).L.length : Nat) : Int) := by
      show _ = (((r.L ++ [_]).length : Nat) : Int)
      rw [List.length_append]
      rfl
    rw [hln] at hP
    refine ⟨rfl, _, ⟨mb, _, _, v, hP.out.1⟩, HT4.out.then_ hP.out.2, fun k hk => ?_⟩
    rcases hk.2 with h | h
    · exact .inl h
    · exact .inr (Nat.le_trans HT4.out.size h)
  | false =>
    have HO := Aside0.mk ho
    clear ho
    go_upto_region 10 with (fail)
    refine start_ (n := 11) (S := fun w' => w'.cell? ⟨g, 1, none⟩ = some v ∧ w'.cell? ⟨X, 0, none⟩ = some (.int .i64 owner) ∧ w'.cell? ⟨X, 1, none⟩ = some (.int .u32 f.f0) ∧ w'.cell? ⟨X, 2, none⟩ = some (.int .u32 f.f1) ∧ w'.cell? ⟨X, 3, none⟩ = some (.bool f.f2) ∧ w'.cell? ⟨X, 4, none⟩ = some (.int .i64 r.since)) (ds := [10]) #[false, false, false, false, false, false, false, false, false, false, false] (by kernel_rfl) rfl rfl ⟨c1, x0, x1, x2, x3, x4⟩ (fun hHeld => ?_)
    refine pure_ (i := 0) (N := some 56) (v := ?_) (a' := ?_) #[true, false, false, false, false, false, false, false, false, false, false] rfl rfl (by kernel_rfl) (fun _ _ _ h => h) (Or.inl ⟨by rfl, ?_⟩) ?_ ?_
    rotate_left
    · intro w'
      go_simp
      with_reducible rfl
    rotate_left
    · simp only [Act.put, List.setIfInBounds_toArray, List.set_cons_zero, List.set_cons_succ, i64_w, i32_w]
      rfl
    refine pure_ (i := 1) (N := some 57) (v := ?_) (a' := ?_) #[true, true, false, false, false, false, false, false, false, false, false] rfl rfl (by kernel_rfl) (fun _ _ _ h => h) (Or.inl ⟨by rfl, ?_⟩) ?_ ?_
    rotate_left
    · intro w'
      go_simp
      with_reducible rfl
    rotate_left
    · simp only [Act.put, List.setIfInBounds_toArray, List.set_cons_zero, List.set_cons_succ, i64_w, i32_w]
      rfl
    refine pure_ (i := 2) (N := some 58) (v := ?_) (a' := ?_) #[true, true, true, false, false, false, false, false, false, false, false] rfl rfl (by kernel_rfl) (fun _ _ _ h => h) (Or.inl ⟨by rfl, ?_⟩) ?_ ?_
    rotate_left
    · intro w'
      go_simp
      with_reducible rfl
    rotate_left
    · simp only [Act.put, List.setIfInBounds_toArray, List.set_cons_zero, List.set_cons_succ, i64_w, i32_w]
      rfl
    refine pure_ (i := 3) (N := some 59) (v := ?_) (a' := ?_) #[true, true, true, true, false, false, false, false, false, false, false] rfl rfl (by kernel_rfl) (fun _ _ _ h => h) (Or.inl ⟨by rfl, ?_⟩) ?_ ?_
    rotate_left
    · intro w'
      go_simp
      with_reducible rfl
    rotate_left
    · simp only [Act.put, List.setIfInBounds_toArray, List.set_cons_zero, List.set_cons_succ, i64_w, i32_w]
      rfl
    refine take_ (i := 4) (N := some 60) (v := ?_) (a' := ?_) #[true, true, true, true, true, false, false, false, false, false, false] rfl rfl (by kernel_rfl) (fun _ _ _ h => h) (Or.inl ⟨by rfl, ?_⟩) hHeld ?_ ?_
    rotate_left
    · rintro w' ⟨s0, s1, s2, s3, s4, s5⟩
      go_simp
      with_reducible rfl
    rotate_left
    · simp only [Act.put, List.setIfInBounds_toArray, List.set_cons_zero, List.set_cons_succ, i64_w, i32_w]
      rfl
    refine take_ (i := 5) (N := some 61) (v := ?_) (a' := ?_) #[true, true, true, true, true, true, false, false, false, false, false] rfl rfl (by kernel_rfl) (fun _ _ _ h => h) (Or.inl ⟨by rfl, ?_⟩) hHeld ?_ ?_
    rotate_left
    · rintro w' ⟨s0, s1, s2, s3, s4, s5⟩
      go_simp
      with_reducible rfl
    rotate_left
    · simp only [Act.put, List.setIfInBounds_toArray, List.set_cons_zero, List.set_cons_succ, i64_w, i32_w]
      rfl
    refine one_ (i := 6) (N := some 62) #[true, true, true, true, true, true, true, false, false, false, false] rfl rfl (by kernel_rfl) (by decide) (fun K hK => ?_)
    refine value_ (w1 := ?_) (v := ?_) (by rfl) rfl ?_ ?_
    rotate_left 2
    · go_simp
      constructor
      · rfl
      · rfl
    refine hK.out _ _ ⟨(((Turn.refl (fun _ => False) W4).drew.alloc _).cell c1 (fun x => x)), (((Turn.refl (fun _ => False) W4).drew.alloc _).cell x0 (fun x => x)), (((Turn.refl (fun _ => False) W4).drew.alloc _).cell x1 (fun x => x)), (((Turn.refl (fun _ => False) W4).drew.alloc _).cell x2 (fun x => x)), (((Turn.refl (fun _ => False) W4).drew.alloc _).cell x3 (fun x => x)), (((Turn.refl (fun _ => False) W4).drew.alloc _).cell x4 (fun x => x))⟩ (fun hHeld => ?_)
    clear hK K
    refine norm_ (a' := ?_) ?_ ?_
    rotate_left
    · show Act.put _ (some 62) _ = _
      simp only [Act.put, List.setIfInBounds_toArray, List.set_cons_zero, List.set_cons_succ, i64_w, i32_w]
      rfl
    refine one_ (i := 7) (N := some 63) #[true, true, true, true, true, true, true, true, false, false, false] rfl rfl (by kernel_rfl) (by decide) (fun K hK => ?_)
    have hO := (H4.out.rest.keep (w1 := W4.drew) (fun _ _ => rfl)).R (ok := fun k => v.ownBlock = some k ∨ W4.heap.size ≤ k) (fun k hk => .inl hk)
    refine Kd.R_append_step (w0 := W4.drew) (W := W4.drew) kEt 0 (by rfl) _ _ 55 59 (.agg #[.int .i64 0, .int .u32 0, .int .u32 0, .bool false, .int .i64 0]) 32 rfl Try.underlying55 infoEn rfl (by decide) (by decide) v (restE r.L) ⟨owner, f, r.since⟩ _ (fun k => v.ownBlock = some k ∨ W4.heap.size ≤ k) (fun _ => False) rfl rfl (kEt_mkM _ _ _ ⟨owner, f, r.since⟩) (fun _ hk => hk.elim) (fun k hk => .inr hk) hO (Below.refl _ _) (Nat.zero_le _) (by have := rest_len r.L; have := HL.out; omega) ?_
    intro v1 w3 hR3 _ hg3 hat3
    obtain ⟨A2, c2', rfl⟩ := Kd.R_slice hR3
    have hT3 : Turn (fun k => v.ownBlock = some k) W4 w3 := ((Turn.refl _ W4).drew).grown hg3 (fun k hk => .inl hk)
    have hX3 := RowX.of_R kEtE hR3
    have hCX : ¬ v.ownBlock = some X := fun e => HXs.out.1 X (H4.out.sv X e) rfl
    have hb3 := hT3.blk H4.out.hb (fun e => H4.out.vg e)
    have z3 := fun j => blk_frozen hb3 j
    refine hK.out _ _ ⟨(hT3.cell c1 (fun e => H4.out.vg e)), (hT3.cell x0 hCX), (hT3.cell x1 hCX), (hT3.cell x2 hCX), (hT3.cell x3 hCX), (hT3.cell x4 hCX)⟩ (fun hHeld => ?_)
    clear hK K
    refine norm_ (a' := ?_) ?_ ?_
    rotate_left
    · show Act.put _ (some 63) _ = _
      simp only [Act.put, List.setIfInBounds_toArray, List.set_cons_zero, List.set_cons_succ, i64_w, i32_w]
      rfl
    refine pure_ (i := 8) (N := some 64) (v := ?_) (a' := ?_) #[true, true, true, true, true, true, true, true, true, false, false] rfl rfl (by kernel_rfl) (fun _ _ _ h => h) (Or.inl ⟨by rfl, ?_⟩) ?_ ?_
    rotate_left
    · intro w'
      go_simp
      with_reducible rfl
    rotate_left
    · simp only [Act.put, List.setIfInBounds_toArray, List.set_cons_zero, List.set_cons_succ, i64_w, i32_w]
      rfl
    refine pure_ (i := 9) (N := some 65) (v := ?_) (a' := ?_) #[true, true, true, true, true, true, true, true, true, true, false] rfl rfl (by kernel_rfl) (fun _ _ _ h => h) (Or.inl ⟨by rfl, ?_⟩) ?_ ?_
    rotate_left
    · intro w'
      go_simp
      with_reducible rfl
    rotate_left
    · simp only [Act.put, List.setIfInBounds_toArray, List.set_cons_zero, List.set_cons_succ, i64_w, i32_w]
      rfl
    refine last_ (i := 10) (N := none) #[true, true, true, true, true, true, true, true, true, true, true] rfl rfl (by kernel_rfl) (by decide) (fun K hK => ?_)
    refine skip_ (w1 := ?_) (by rfl) rfl ?_ ?_
    rotate_left
    · go_simp
      rfl
    refine hK.out _ _ ?_
    clear hK K
    refine done_ (by kernel_rfl) ?_
    have hP := Aside0.mk (H4.out.putR (L' := r.L ++ [⟨owner, f, r.since⟩]) (by rw [restE_add, if_neg (by rw [HO.out]; decide)]; exact hX3) hT3 hat3 (fun i => by rw [wordL_add, if_neg (fun h => by rw [HO.out] at h; cases h.1)]))
    have hl1 : (restE r.L).length + 1 = (restE r.L ++ [(⟨owner, f, r.since⟩ : Ent)]).length := by simp
    have HL1 := Aside0.mk hl1
    clear hl1
    clear hHeld
    clear hCX hX3 hT3 hat3 hg3 hR3 hO c0 c1 b0 x0 x1 x2 x3 x4 z z3 hb3
    go_wp2_with fail
    go_ret
    rw [HL1.out]
    have hln : ((r.L.length + 1 : Nat) : Int) = (((addR r owner f).L.length : Nat) : Int) := by
      show _ = (((r.L ++ [_]).length : Nat) : Int)
      rw [List.length_append]
      rfl
    rw [hln] at hP
    refine ⟨rfl, _, ⟨mb, s, F, _, hP.out.1⟩, HT4.out.then_ hP.out.2, fun k hk => ?_⟩
    rcases hk.2 with h | h
    · exact .inl h
    · exact .inr (Nat.le_trans HT4.out.size h)
end Go.Proofs.Ytaninnkhdhpcgaa.P
