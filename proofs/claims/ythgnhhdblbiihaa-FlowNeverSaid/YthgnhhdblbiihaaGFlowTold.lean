/- (*flow.Out).Flow at a part that lets the sender go on. -/
import Derived.Test.YthgnhhdblbiihaaGFlowOut
namespace Go.Proofs.Ythgnhhdblbiihaa.P
open Go.RowKit Go.Proofs.YthgnhhdblbiihaaW.PrintWords Go.Proofs.YthgnhhdblbiihaaW.PrintLast Go.Proofs.YthgnhhdblbiihaaW.PrintMore
set_option linter.unusedVariables false
set_option linter.unusedSimpArgs false

theorem two_size (b q : Int) : (strOfNums [b, q]).size = 2 := rfl
theorem tell_read (b q : Int) (hb : 0 ≤ b ∧ b ≤ 255) (hq : 0 ≤ q ∧ q ≤ 255) : readE (tellP 0 b q) = (3, 0, strOfNums [b, q], 0) ∧ (tellP 0 b q).size = 3 := by
  have e : tellP 0 b q = byte1 48 ++ strOfNums [b, q] := by
    unfold tellP writeP
    rw [show b % 256 = b from by omega, show q % 256 = q from by omega]
    rw [if_neg (by rintro ⟨h, _⟩; exact absurd h (by decide)), if_neg (by rintro ⟨h, _⟩; exact absurd h (by decide)), if_neg (by rintro ⟨h, _⟩; exact absurd h (by decide)), if_pos ⟨rfl, rfl, by decide, by decide⟩]
    rfl
  have hs : (byte1 48 ++ strOfNums [b, q]).size = 3 := by rw [ByteArray.size_append, byte1_size, two_size]
  have h0 := bt_head1 48 (by omega) (strOfNums [b, q])
  have hx := extract_head1 48 (strOfNums [b, q])
  rw [e]
  refine ⟨?_, hs⟩
  unfold readE readP
  rw [h0, hx, hs]
  rfl
theorem two_bytes (b q : Int) (hb : 0 ≤ b ∧ b ≤ 255) (hq : 0 ≤ q ∧ q ≤ 255) : (((strOfNums [b, q])[0]'(by rw [two_size]; omega)).toNat : Int) = b ∧ (((strOfNums [b, q])[1]'(by rw [two_size]; omega)).toNat : Int) = q := by
  have h0 : (strOfNums [b, q])[0]'(by rw [two_size]; omega) = UInt8.ofNat b.toNat := rfl
  have h1 : (strOfNums [b, q])[1]'(by rw [two_size]; omega) = UInt8.ofNat q.toNat := rfl
  rw [h0, h1, UInt8.toNat_ofNat', UInt8.toNat_ofNat']
  omega

set_option maxHeartbeats 8000000 in
set_option maxRecDepth 100000 in
theorem flow_Flow.calls {w0 w : World} {g : Nat} {A : Option Addr} {c : Nat} {P : List ByteArray} {told : Nat} {left gap : Int} {free : Bool} {last : Int} (b q now : Int) (hb : 0 ≤ b ∧ b ≤ 255) (hq : 0 ≤ q ∧ q ≤ 255) (h : OutI w g A c P told true false left gap free last) (hg : w0.heap.size ≤ g) (hB : Below w0.heap.size w0 w) :
    Calls Try.prog 37 #[.pointer (some ⟨g, 0, none⟩), .string (tellP 0 b q), .int .i64 now] w fun e w' => e = .returned (.int .i64 0) ∧ OutI w' g A c P told false false (if b = 0 then -1 else b) q true last ∧ Below w0.heap.size w0 w' ∧ KeepBut w w' g none := by
  obtain ⟨hr, hs⟩ := tell_read b q hb hq
  obtain ⟨x0, x1⟩ := two_bytes b q hb hq
  have HRd := Aside0.mk (show seg_Read.f 3 (tellP 0 b q) = some (3, 0, strOfNums [b, q], 0) by rw [seg_Read_f 0 _ (by omega), hr])
  obtain ⟨d, hd⟩ : ∃ d, d = strOfNums [b, q] := ⟨_, rfl⟩
  have hz : d.size = 2 := by rw [hd]; rfl
  have y0 : (((d)[0]'(by omega)).toNat : Int) = b := by subst hd; exact x0
  have y1 : (((d)[1]'(by omega)).toNat : Int) = q := by subst hd; exact x1
  rw [← hd] at HRd
  clear x0 x1 hd hr
  generalize tellP 0 b q = tx at *
  have HO := Aside0.mk h
  have HB := Aside0.mk hB
  have hu := Try.underlying107
  have wb : Aside0 (wrap64 b = b ∧ wrap64 q = q) := ⟨w64_small _ (by omega) (by omega), w64_small _ (by omega) (by omega)⟩
  obtain ⟨fin, hfin⟩ : ∃ fin : Int, fin = if b = 0 then -1 else b := ⟨_, rfl⟩
  rw [← hfin]
  have HZ := Aside0.mk hfin
  clear h hB hs hq hb hfin
  go_enter Try.func37, Try.ntmps37
  go_wp2_with fail
  refine (seg_Read.calls 3 tx 3 0 d 0 w HRd.out).mono ?_
  rintro e w1 ⟨rfl, hb1⟩
  have HO1 := Aside0.mk ((HO.out.below hb1).below (below_alloc (Below.refl _ _) (.cells #[.int .i64 3, .int .i64 0, .string d] 101)))
  have HB1 := Aside0.mk ((HB.out.trans (hb1.mono HB.out.size)).alloc (Nat.le_trans HB.out.size hb1.size) (.cells #[.int .i64 3, .int .i64 0, .string d] 101))
  have HK1 := Aside0.mk (KeepBut.of_below (below_alloc hb1 (.cells #[.int .i64 3, .int .i64 0, .string d] 101)) g none)
  have hD := blk_new w1 (.cells #[.int .i64 3, .int .i64 0, .string d] 101)
  have hDg : w1.heap.size ≠ g := by have := blk_lt (HO.out.below hb1).hb; omega
  clear hb1 HO HB
  go_upto_region 4 with (fail)
  generalize w1.alloc (.cells #[.int .i64 3, .int .i64 0, .string d] 101) = W1 at *
  generalize w1.heap.size = D at *
  have HD := Aside0.mk hD
  have p0 : W1.cell? ⟨D, 0, none⟩ = some (.int .i64 3) := (blk_cell hD 0).trans rfl
  have p1 : W1.cell? ⟨D, 1, none⟩ = some (.int .i64 0) := (blk_cell hD 1).trans rfl
  have c2 : W1.cell? ⟨g, 2, none⟩ = some (.bool true) := (blk_cell HO1.out.hb 2).trans rfl
  have c3 : W1.cell? ⟨g, 3, none⟩ = some (.bool false) := (blk_cell HO1.out.hb 3).trans rfl
  have c6 : W1.cell? ⟨g, 6, none⟩ = some (.bool free) := (blk_cell HO1.out.hb 6).trans rfl
  have z := fun j => blk_frozen HO1.out.hb j
  clear hD
  go_upto_region 11 with (fail)
  refine wp_at (fun W' => OutI W' g A c P told false false left gap true last ∧ Below w0.heap.size w0 W' ∧ KeepBut W1 W' g none) ?_ ?_
  · refine ⟨HO1.out.next (by repeat (with_reducible first | exact KeepBut.refl _ _ _ | apply KeepBut.set_ | apply keep_drewN | apply keep_drew)) ?_, by repeat (with_reducible first | exact HB1.out | apply Below.drew | apply below_drewN | refine Below.setCell ?_ hg _), by repeat (with_reducible first | exact KeepBut.refl _ _ _ | apply KeepBut.set_ | apply keep_drewN | apply keep_drew)⟩
    have := blk_set (blk_set HO1.out.hb 2 (.bool false)) 6 (.bool true)
    simp only [List.setIfInBounds_toArray, List.set_cons_zero, List.set_cons_succ] at this
    exact this
  intro W2 h_
  obtain ⟨h1_, h2_, h3_⟩ := h_
  have hD2 := h3_.blk HD.out hDg (by simp)
  have HO2 := Aside0.mk h1_
  have HB2 := Aside0.mk h2_
  have HK2 := Aside0.mk (HK1.out.trans h3_ (.inl rfl))
  have HD2 := Aside0.mk hD2
  clear h1_ h2_ h3_ p0 p1 c2 c3 c6 z HO1 HB1 HK1 HD
  have p2 : W2.cell? ⟨D, 2, none⟩ = some (.string d) := (blk_cell hD2 2).trans rfl
  have c4 : W2.cell? ⟨g, 4, none⟩ = some (.int .i64 left) := (blk_cell HO2.out.hb 4).trans rfl
  have c5 : W2.cell? ⟨g, 5, none⟩ = some (.int .i64 gap) := (blk_cell HO2.out.hb 5).trans rfl
  have z := fun j => blk_frozen HO2.out.hb j
  clear hD2
  refine start_ (n := 16) (S := fun w' => w'.cell? ⟨D, 2, none⟩ = some (.string d)) (ds := [15]) #[false, false, false, false, false, false, false, false, false, false, false, false, false, false, false, false] (by kernel_rfl) rfl rfl (p2) (fun hHeld => ?_)
  refine pure_ (i := 0) (N := some 46) (v := ?_) (a' := ?_) #[true, false, false, false, false, false, false, false, false, false, false, false, false, false, false, false] rfl rfl (by kernel_rfl) (fun _ _ _ h => h) (Or.inl ⟨by rfl, ?_⟩) ?_ ?_
  rotate_left
  · intro w'
    go_simp
    with_reducible rfl
  rotate_left
  · simp only [Act.put, List.setIfInBounds_toArray, List.set_cons_zero, List.set_cons_succ, i64_w, i32_w]
    rfl
  refine pure_ (i := 1) (N := some 47) (v := ?_) (a' := ?_) #[true, true, false, false, false, false, false, false, false, false, false, false, false, false, false, false] rfl rfl (by kernel_rfl) (fun _ _ _ h => h) (Or.inl ⟨by rfl, ?_⟩) ?_ ?_
  rotate_left
  · intro w'
    go_simp
    with_reducible rfl
  rotate_left
  · simp only [Act.put, List.setIfInBounds_toArray, List.set_cons_zero, List.set_cons_succ, i64_w, i32_w]
    rfl
  refine pure_ (i := 2) (N := some 48) (v := ?_) (a' := ?_) #[true, true, true, false, false, false, false, false, false, false, false, false, false, false, false, false] rfl rfl (by kernel_rfl) (fun _ _ _ h => h) (Or.inl ⟨by rfl, ?_⟩) ?_ ?_
  rotate_left
  · intro w'
    go_simp
    with_reducible rfl
  rotate_left
  · simp only [Act.put, List.setIfInBounds_toArray, List.set_cons_zero, List.set_cons_succ, i64_w, i32_w]
    rfl
  refine pure_ (i := 6) (N := some 52) (v := ?_) (a' := ?_) #[true, true, true, false, false, false, true, false, false, false, false, false, false, false, false, false] rfl rfl (by kernel_rfl) (fun _ _ _ h => h) (Or.inl ⟨by rfl, ?_⟩) ?_ ?_
  rotate_left
  · intro w'
    go_simp
    with_reducible rfl
  rotate_left
  · simp only [Act.put, List.setIfInBounds_toArray, List.set_cons_zero, List.set_cons_succ, i64_w, i32_w]
    rfl
  refine take_ (i := 3) (N := some 49) (v := ?_) (a' := ?_) #[true, true, true, true, false, false, true, false, false, false, false, false, false, false, false, false] rfl rfl (by kernel_rfl) (fun _ _ _ h => h) (Or.inl ⟨by rfl, ?_⟩) hHeld ?_ ?_
  rotate_left
  · intro w' s0
    go_simp
    with_reducible rfl
  rotate_left
  · simp only [Act.put, List.setIfInBounds_toArray, List.set_cons_zero, List.set_cons_succ, i64_w, i32_w]
    rfl
  refine take_ (i := 4) (N := some 50) (v := ?_) (a' := ?_) #[true, true, true, true, true, false, true, false, false, false, false, false, false, false, false, false] rfl rfl (by kernel_rfl) (fun _ _ _ h => h) (Or.inl ⟨by rfl, ?_⟩) hHeld ?_ ?_
  rotate_left
  · intro w' s0
    go_simp
    with_reducible rfl
  rotate_left
  · simp only [Act.put, List.setIfInBounds_toArray, List.set_cons_zero, List.set_cons_succ, i64_w, i32_w]
    rfl
  refine pure_ (i := 5) (N := some 51) (v := ?_) (a' := ?_) #[true, true, true, true, true, true, true, false, false, false, false, false, false, false, false, false] rfl rfl (by kernel_rfl) (fun _ _ _ h => h) (Or.inl ⟨by rfl, ?_⟩) ?_ ?_
  rotate_left
  · intro w'
    go_simp
    with_reducible rfl
  rotate_left
  · simp only [Act.put, List.setIfInBounds_toArray, List.set_cons_zero, List.set_cons_succ, i64_w, i32_w]
    rfl
  refine pure_ (i := 10) (N := some 56) (v := ?_) (a' := ?_) #[true, true, true, true, true, true, true, false, false, false, true, false, false, false, false, false] rfl rfl (by kernel_rfl) (fun _ _ _ h => h) (Or.inl ⟨by rfl, ?_⟩) ?_ ?_
  rotate_left
  · intro w'
    go_simp
    with_reducible rfl
  rotate_left
  · simp only [Act.put, List.setIfInBounds_toArray, List.set_cons_zero, List.set_cons_succ, i64_w, i32_w]
    rfl
  refine pure_ (i := 11) (N := some 57) (v := ?_) (a' := ?_) #[true, true, true, true, true, true, true, false, false, false, true, true, false, false, false, false] rfl rfl (by kernel_rfl) (fun _ _ _ h => h) (Or.inl ⟨by rfl, ?_⟩) ?_ ?_
  rotate_left
  · intro w'
    go_simp
    with_reducible rfl
  rotate_left
  · simp only [Act.put, List.setIfInBounds_toArray, List.set_cons_zero, List.set_cons_succ, i64_w, i32_w]
    rfl
  refine take_ (i := 7) (N := some 53) (v := ?_) (a' := ?_) #[true, true, true, true, true, true, true, true, false, false, true, true, false, false, false, false] rfl rfl (by kernel_rfl) (fun _ _ _ h => h) (Or.inl ⟨by rfl, ?_⟩) hHeld ?_ ?_
  rotate_left
  · intro w' s0
    go_simp
    with_reducible rfl
  rotate_left
  · simp only [Act.put, List.setIfInBounds_toArray, List.set_cons_zero, List.set_cons_succ, i64_w, i32_w]
    rfl
  refine take_ (i := 8) (N := some 54) (v := ?_) (a' := ?_) #[true, true, true, true, true, true, true, true, true, false, true, true, false, false, false, false] rfl rfl (by kernel_rfl) (fun _ _ _ h => h) (Or.inl ⟨by rfl, ?_⟩) hHeld ?_ ?_
  rotate_left
  · intro w' s0
    go_simp
    with_reducible rfl
  rotate_left
  · simp only [Act.put, List.setIfInBounds_toArray, List.set_cons_zero, List.set_cons_succ, i64_w, i32_w]
    rfl
  refine pure_ (i := 9) (N := some 55) (v := ?_) (a' := ?_) #[true, true, true, true, true, true, true, true, true, true, true, true, false, false, false, false] rfl rfl (by kernel_rfl) (fun _ _ _ h => h) (Or.inl ⟨by rfl, ?_⟩) ?_ ?_
  rotate_left
  · intro w'
    go_simp
    with_reducible rfl
  rotate_left
  · simp only [Act.put, List.setIfInBounds_toArray, List.set_cons_zero, List.set_cons_succ, i64_w, i32_w]
    rfl
  refine one_ (i := 12) (N := none) #[true, true, true, true, true, true, true, true, true, true, true, true, true, false, false, false] rfl rfl (by kernel_rfl) (by decide) (fun K hK => ?_)
  refine skip_ (w1 := ?_) (by rfl) rfl ?_ ?_
  rotate_left
  · go_simp
    rfl
  refine hK.out _ _ (((blk_cell (blk_far (w := W2) (p := ⟨g, 4, none⟩) HD2.out hDg (.int .i64 (wrap64 b))) 2).trans rfl)) (fun hHeld => ?_)
  clear hK K
  refine pure_ (i := 13) (N := some 58) (v := ?_) (a' := ?_) #[true, true, true, true, true, true, true, true, true, true, true, true, true, true, false, false] rfl rfl (by kernel_rfl) (fun _ _ _ h => h) (Or.inl ⟨by rfl, ?_⟩) ?_ ?_
  rotate_left
  · intro w'
    go_simp
    with_reducible rfl
  rotate_left
  · simp only [Act.put, List.setIfInBounds_toArray, List.set_cons_zero, List.set_cons_succ, i64_w, i32_w]
    rfl
  refine pure_ (i := 14) (N := some 59) (v := ?_) (a' := ?_) #[true, true, true, true, true, true, true, true, true, true, true, true, true, true, true, false] rfl rfl (by kernel_rfl) (fun _ _ _ h => h) (Or.inl ⟨by rfl, ?_⟩) ?_ ?_
  rotate_left
  · intro w'
    go_simp
    with_reducible rfl
  rotate_left
  · simp only [Act.put, List.setIfInBounds_toArray, List.set_cons_zero, List.set_cons_succ, i64_w, i32_w]
    rfl
  refine last_ (i := 15) (N := none) #[true, true, true, true, true, true, true, true, true, true, true, true, true, true, true, true] rfl rfl (by kernel_rfl) (by decide) (fun K hK => ?_)
  refine skip_ (w1 := ?_) (by rfl) rfl ?_ ?_
  rotate_left
  · go_simp
    rfl
  refine hK.out _ _ ?_
  clear hK K
  refine done_ (by kernel_rfl) ?_
  clear p2 c4 c5 z hDg y0 y1
  rw [wb.out.1, wb.out.2]
  go_upto_region 12 with (fail)
  refine wp_at (fun W' => OutI W' g A c P told false false b q true last ∧ Below w0.heap.size w0 W' ∧ KeepBut W2 W' g none) ?_ ?_
  · refine ⟨HO2.out.next (by repeat (with_reducible first | exact KeepBut.refl _ _ _ | apply KeepBut.set_ | apply keep_drewN | apply keep_drew)) ?_, by repeat (with_reducible first | exact HB2.out | apply Below.drew | apply below_drewN | refine Below.setCell ?_ hg _), by repeat (with_reducible first | exact KeepBut.refl _ _ _ | apply KeepBut.set_ | apply keep_drewN | apply keep_drew)⟩
    have := blk_set (blk_set HO2.out.hb 4 (.int .i64 b)) 5 (.int .i64 q)
    simp only [List.setIfInBounds_toArray, List.set_cons_zero, List.set_cons_succ] at this
    exact this
  intro W3 h_
  obtain ⟨h1_, h2_, h3_⟩ := h_
  have HO3 := Aside0.mk h1_
  have HB3 := Aside0.mk h2_
  have HK3 := Aside0.mk (HK2.out.trans h3_ (.inl rfl))
  clear h1_ h2_ h3_
  have c4 : W3.cell? ⟨g, 4, none⟩ = some (.int .i64 b) := (blk_cell HO3.out.hb 4).trans rfl
  have z := fun j => blk_frozen HO3.out.hb j
  go_wp2_with fail
  · rename_i hz0
    go_ret
    refine ⟨rfl, ?_, ?_, ?_⟩
    · rw [HZ.out, if_pos (eq_of_beq hz0)]
      refine HO3.out.next (by repeat (with_reducible first | exact KeepBut.refl _ _ _ | apply KeepBut.set_ | apply keep_drewN | apply keep_drew)) ?_
      have := blk_set HO3.out.hb 4 (.int .i64 (-1))
      simp only [List.setIfInBounds_toArray, List.set_cons_zero, List.set_cons_succ] at this
      exact this
    · repeat (with_reducible first | exact HB3.out | apply Below.drew | apply below_drewN | refine Below.setCell ?_ hg _)
    · exact HK3.out.trans (by repeat (with_reducible first | exact KeepBut.refl _ _ _ | apply KeepBut.set_ | apply keep_drewN | apply keep_drew)) (.inl rfl)
  · rename_i hz0
    go_ret
    refine ⟨rfl, ?_, ?_, ?_⟩
    · rw [HZ.out, if_neg (fun e => by subst e; cases hz0)]
      exact HO3.out
    · repeat (with_reducible first | exact HB3.out | apply Below.drew | apply below_drewN | refine Below.setCell ?_ hg _)
    · exact HK3.out.trans (by repeat (with_reducible first | exact KeepBut.refl _ _ _ | apply KeepBut.set_ | apply keep_drewN | apply keep_drew)) (.inl rfl)
end Go.Proofs.Ythgnhhdblbiihaa.P
