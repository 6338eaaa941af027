/- BandPlays' walk; no conditions. -/
import Derived.Test.YtkmhdibabdifbaaGBandUse
import Derived.Test.YtkmhdibabdifbaaGBandOpen
import Derived.Test.YtkmhdibabdifbaaPEq29
namespace Go.Proofs.Ytkmhdibabdifbaa.P
open Go.RowKit Go.Proofs.YtkmhdibabdifbaaW.PrintWords Go.Proofs.YtkmhdibabdifbaaW.PrintLast Go.Proofs.YtkmhdibabdifbaaW.PrintMore
set_option linter.unusedVariables false
set_option linter.unusedSimpArgs false

/-- The two queues beside each other, behind i calls. -/
structure PlB (w0 w : World) (g h i : Nat) (X : Nat → Prop) (n : Nat) (q : BQ) (r : RQv) : Prop where
  two : Two w0 w (QP g n q) (RP h r) X
  rel : Rel q r
  n : n ≤ 2 * i
  len : r.L.length ≤ i
theorem qp_is {g n : Nat} {q : BQ} {w : World} {S : Nat → Prop} (h : QP g n q w S) : IsBand w g n q S := h
attribute [local go_sem high] eqA31
set_option maxHeartbeats 16000000 in
set_option maxRecDepth 100000 in
theorem plays_law (bands room : Int) (A : Option Addr) (c : Nat) (l : List S33) (w : World) (hC : Kd.C k33 w A l.length l) (hc : l.length ≤ c) :
    Calls Try.prog 5 #[.int .i64 bands, .int .i64 room, .slice A l.length c] w fun e w' => e = .returned (.bool true) ∧ Below w.heap.size w w' := by
  obtain ⟨b, hb, hle⟩ := few_f l
  have HF := Aside0.mk (signalboxlaw15_few.calls 500 A c l b w hC hc hb)
  have HC := Aside0.mk hC
  clear hC hb
  go_enter Try.func5, Try.ntmps5
  go_wp2_with fail
  refine HF.out.mono ?_
  rintro e w1 ⟨rfl, hb1⟩
  cases b with
  | false =>
    go_wp2_with fail
    refine (alive15 _).mono ?_
    rintro e w2 ⟨rfl, hb2⟩
    go_wp2_with fail
    go_ret
    exact ⟨rfl, hb1.trans (hb2.mono hb1.size)⟩
  | true =>
    have hl := hle rfl
    have H1 := Aside0.mk ((Two.start w).quiet nought_framed nought_framed hb1)
    clear hb1 hle HF
    go_wp2_with fail
    refine (two_New bands room nought_framed H1.out).mono ?_
    rintro e w2 ⟨g, rfl, H, _⟩
    have H2 := Aside0.mk H
    clear H H1
    go_wp2_with fail
    refine (two_rNew bands room (qf _ _ _) H2.out).mono ?_
    rintro e w3 ⟨h, rfl, H, _⟩
    have HP := Aside0.mk (show PlB w w3 g h 0 (fun _ => False) 0 _ _ from ⟨H, Rel.new bands room, Nat.le_refl _, Nat.le_refl _⟩)
    clear H H2
    go_wp2_with fail
    go_loopw [27] (fun v wr => ∃ (i n : Nat) (q : BQ) (r : RQv), i ≤ l.length ∧ v = .int .i64 i ∧ Aside0 (PlB w wr g h i (fun _ => False) n q r)) (fun v _ => l.length - (intOf v).toNat)
    case atStart => exact ⟨0, 0, _, _, by omega, rfl, HP⟩
    case round =>
      clear HP
      obtain ⟨i, n, q, r, hi, rfl, HP⟩ := hrel
      by_cases hil : i < l.length
      · have v1 : decide ((i : Int) < (l.length : Int)) = true := decide_eq_true (by omega)
        have j1 : (i : Int) < (l.length : Int) := by omega
        obtain ⟨ad, rfl, x0, x1, x2, x3, x4, x5, x6, x7, x8⟩ := at_T33 (Kd.C_below (Kd.C_below HC.out (Below.refl _ _)) HP.out.two.below) i (by omega) (by omega)
        obtain ⟨o, ho⟩ : ∃ o, o = rd_T33 l (i : Int) := ⟨_, rfl⟩
        rw [← ho, Int.toNat_natCast] at x0 x1 x2 x3 x4 x5 x6 x7 x8
        clear ho
        go_upto_region 7 with (fail)
        obtain ⟨E, hE⟩ : ∃ E, E = wr.heap.size := ⟨_, rfl⟩
        rw [← hE]
        refine wp_world (fun W => PlB w W g h i (fun k => k = E) n q r ∧ W.heap[E]? = some (.cells #[.int .i64 o.f0, .int .i64 o.f1, .int .i64 o.f2.f0.f0, .int .i64 o.f2.f0.f1, .int .i64 o.f2.f0.f2, .string o.f2.f0.f3, .int .i64 o.f2.f1, .int .i64 o.f2.f2, .bool o.f2.f3] 33 (0, 0))) ⟨⟨HP.out.two.box (qf _ _ _) (rf _ _) _ hE (fun k hk => .inr hk), HP.out.rel, HP.out.n, HP.out.len⟩, by rw [hE]; exact blk_new _ _⟩ ?_
        rintro W1 ⟨hp, he⟩
        have HP1 := Aside0.mk hp
        have HE := Aside0.mk he
        have e0 : W1.cell? ⟨E, 0, none⟩ = some (.int .i64 o.f0) := (blk_cell he 0).trans rfl
        clear x0 x1 x2 x3 x4 x5 x6 x7 x8 hp he hE HP
        go_cut [32] from 33 to 121 (fun v32 wc => v32 = .int .i64 o.f0 ∧ wc = W1)
        case first =>
          go_wp2_with fail
          go_meet
          case rel => exact ⟨rfl, rfl⟩
        case rest =>
          obtain ⟨rfl, rfl⟩ := hcut
          clear e0
          apply_assumption
          go_cut [] from 33 to 121 (fun wz => ∃ (n : Nat) (q : BQ) (r : RQv), Aside0 (PlB w wz g h (i + 1) (fun k => k = E) n q r))
          case first =>
            have hrel := HP1.out.rel
            have hlen := HP1.out.len
            have hn := HP1.out.n
            have hok := HP1.out.rel.ok (by omega)
            by_cases k0 : o.f0 = 0
            · have k0b : (o.f0 == 0) = true := beq_iff_eq.mpr k0
              clear k0
              go_upto_region 9 with (fail)
              by_cases hfull : q.many = q.room
              · have hfr : (r.L.length : Int) = r.room := by rw [← hrel.many, ← hrel.room]; exact hfull
                refine start_ (n := 13) (S := fun w' => w'.cell? ⟨E, 1, none⟩ = some (.int .i64 o.f1) ∧ w'.cell? ⟨E, 2, none⟩ = some (.int .i64 o.f2.f0.f0) ∧ w'.cell? ⟨E, 3, none⟩ = some (.int .i64 o.f2.f0.f1) ∧ w'.cell? ⟨E, 4, none⟩ = some (.int .i64 o.f2.f0.f2) ∧ w'.cell? ⟨E, 5, none⟩ = some (.string o.f2.f0.f3) ∧ w'.cell? ⟨E, 6, none⟩ = some (.int .i64 o.f2.f1) ∧ w'.cell? ⟨E, 7, none⟩ = some (.int .i64 o.f2.f2) ∧ w'.cell? ⟨E, 8, none⟩ = some (.bool o.f2.f3)) (ds := [11]) #[false, false, false, false, false, false, false, false, false, false, false, false, false] (by kernel_rfl) rfl rfl ⟨((blk_cell HE.out 1).trans rfl), ((blk_cell HE.out 2).trans rfl), ((blk_cell HE.out 3).trans rfl), ((blk_cell HE.out 4).trans rfl), ((blk_cell HE.out 5).trans rfl), ((blk_cell HE.out 6).trans rfl), ((blk_cell HE.out 7).trans rfl), ((blk_cell HE.out 8).trans rfl)⟩ (fun hHeld => ?_)
                refine pure_ (i := 0) (N := some 35) (v := ?_) (a' := ?_) #[true, false, false, false, false, false, false, false, false, false, false, false, false] rfl rfl (by kernel_rfl) (fun _ _ _ h => h) (Or.inl ⟨by rfl, ?_⟩) ?_ ?_
                rotate_left
                · intro w'
                  go_simp
                  with_reducible rfl
                rotate_left
                · simp only [Act.put, List.setIfInBounds_toArray, List.set_cons_zero, List.set_cons_succ, i64_w, i32_w]
                  rfl
                refine pure_ (i := 1) (N := some 36) (v := ?_) (a' := ?_) #[true, true, false, false, false, false, false, false, false, false, false, false, false] rfl rfl (by kernel_rfl) (fun _ _ _ h => h) (Or.inl ⟨by rfl, ?_⟩) ?_ ?_
                rotate_left
                · intro w'
                  go_simp
                  with_reducible rfl
                rotate_left
                · simp only [Act.put, List.setIfInBounds_toArray, List.set_cons_zero, List.set_cons_succ, i64_w, i32_w]
                  rfl
                refine pure_ (i := 3) (N := some 38) (v := ?_) (a' := ?_) #[true, true, false, true, false, false, false, false, false, false, false, false, false] rfl rfl (by kernel_rfl) (fun _ _ _ h => h) (Or.inl ⟨by rfl, ?_⟩) ?_ ?_
                rotate_left
                · intro w'
                  go_simp
                  with_reducible rfl
                rotate_left
                · simp only [Act.put, List.setIfInBounds_toArray, List.set_cons_zero, List.set_cons_succ, i64_w, i32_w]
                  rfl
                refine pure_ (i := 6) (N := some 41) (v := ?_) (a' := ?_) #[true, true, false, true, false, false, true, false, false, false, false, false, false] rfl rfl (by kernel_rfl) (fun _ _ _ h => h) (Or.inl ⟨by rfl, ?_⟩) ?_ ?_
                rotate_left
                · intro w'
                  go_simp
                  with_reducible rfl
                rotate_left
                · simp only [Act.put, List.setIfInBounds_toArray, List.set_cons_zero, List.set_cons_succ, i64_w, i32_w]
                  rfl
                refine pure_ (i := 7) (N := some 42) (v := ?_) (a' := ?_) #[true, true, false, true, false, false, true, true, false, false, false, false, false] rfl rfl (by kernel_rfl) (fun _ _ _ h => h) (Or.inl ⟨by rfl, ?_⟩) ?_ ?_
                rotate_left
                · intro w'
                  go_simp
                  with_reducible rfl
                rotate_left
                · simp only [Act.put, List.setIfInBounds_toArray, List.set_cons_zero, List.set_cons_succ, i64_w, i32_w]
                  rfl
                refine pure_ (i := 9) (N := some 44) (v := ?_) (a' := ?_) #[true, true, false, true, false, false, true, true, false, true, false, false, false] rfl rfl (by kernel_rfl) (fun _ _ _ h => h) (Or.inl ⟨by rfl, ?_⟩) ?_ ?_
                rotate_left
                · intro w'
                  go_simp
                  with_reducible rfl
                rotate_left
                · simp only [Act.put, List.setIfInBounds_toArray, List.set_cons_zero, List.set_cons_succ, i64_w, i32_w]
                  rfl
                refine take_ (i := 2) (N := some 37) (v := ?_) (a' := ?_) #[true, true, true, true, false, false, true, true, false, true, false, false, false] rfl rfl (by kernel_rfl) (fun _ _ _ h => h) (Or.inl ⟨by rfl, ?_⟩) hHeld ?_ ?_
                rotate_left
                · rintro w' ⟨s0, s1, s2, s3, s4, s5, s6, s7⟩
                  go_simp
                  with_reducible rfl
                rotate_left
                · simp only [Act.put, List.setIfInBounds_toArray, List.set_cons_zero, List.set_cons_succ, i64_w, i32_w]
                  rfl
                refine take_ (i := 4) (N := some 39) (v := ?_) (a' := ?_) #[true, true, true, true, true, false, true, true, false, true, false, false, false] rfl rfl (by kernel_rfl) (fun _ _ _ h => h) (Or.inl ⟨by rfl, ?_⟩) hHeld ?_ ?_
                rotate_left
                · rintro w' ⟨s0, s1, s2, s3, s4, s5, s6, s7⟩
                  go_simp
                  with_reducible rfl
                rotate_left
                · simp only [Act.put, List.setIfInBounds_toArray, List.set_cons_zero, List.set_cons_succ, i64_w, i32_w]
                  rfl
                refine take_ (i := 8) (N := some 43) (v := ?_) (a' := ?_) #[true, true, true, true, true, false, true, true, true, true, false, false, false] rfl rfl (by kernel_rfl) (fun _ _ _ h => h) (Or.inl ⟨by rfl, ?_⟩) hHeld ?_ ?_
                rotate_left
                · rintro w' ⟨s0, s1, s2, s3, s4, s5, s6, s7⟩
                  go_simp
                  with_reducible rfl
                rotate_left
                · simp only [Act.put, List.setIfInBounds_toArray, List.set_cons_zero, List.set_cons_succ, i64_w, i32_w]
                  rfl
                refine take_ (i := 10) (N := some 45) (v := ?_) (a' := ?_) #[true, true, true, true, true, false, true, true, true, true, true, false, false] rfl rfl (by kernel_rfl) (fun _ _ _ h => h) (Or.inl ⟨by rfl, ?_⟩) hHeld ?_ ?_
                rotate_left
                · rintro w' ⟨s0, s1, s2, s3, s4, s5, s6, s7⟩
                  go_simp
                  with_reducible rfl
                rotate_left
                · simp only [Act.put, List.setIfInBounds_toArray, List.set_cons_zero, List.set_cons_succ, i64_w, i32_w]
                  rfl
                refine one_ (i := 5) (N := some 40) #[true, true, true, true, true, true, true, true, true, true, true, false, false] rfl rfl (by kernel_rfl) (by decide) (fun K hK => ?_)
                refine goes_ Try.func10 (by kernel_rfl) rfl #[.pointer (some ⟨g, 0, none⟩), .int .i64 o.f1, pkV o.f2] (by rfl) rfl rfl (by first | (simp only [List.map_toArray, List.map_cons, List.map_nil]; done) | (simp only [List.map_toArray, List.map_cons, List.map_nil]; rfl)) ?_
                with_reducible refine (two_Put_full (rf h r) (HP1.out.two.drew (qf _ _ _) (rf _ _)) o.f1 o.f2 hfull).mono ?_
                rintro e w3 ⟨rfl, H3, hk3⟩
                refine ⟨_, rfl, ?_⟩
                have he3 := hk3.blk (show wc.drew.heap[E]? = some (.cells #[.int .i64 o.f0, .int .i64 o.f1, .int .i64 o.f2.f0.f0, .int .i64 o.f2.f0.f1, .int .i64 o.f2.f0.f2, .string o.f2.f0.f3, .int .i64 o.f2.f1, .int .i64 o.f2.f2, .bool o.f2.f3] 33 (0, 0)) from HE.out) rfl
                refine hK.out _ _ ⟨((blk_cell he3 1).trans rfl), ((blk_cell he3 2).trans rfl), ((blk_cell he3 3).trans rfl), ((blk_cell he3 4).trans rfl), ((blk_cell he3 5).trans rfl), ((blk_cell he3 6).trans rfl), ((blk_cell he3 7).trans rfl), ((blk_cell he3 8).trans rfl)⟩ (fun hHeld => ?_)
                clear hK K
                refine norm_ (a' := ?_) ?_ ?_
                rotate_left
                · show Act.put _ (some 40) _ = _
                  simp only [Act.put, List.setIfInBounds_toArray, List.set_cons_zero, List.set_cons_succ, i64_w, i32_w]
                  rfl
                refine last_ (i := 11) (N := some 46) #[true, true, true, true, true, true, true, true, true, true, true, true, false] rfl rfl (by kernel_rfl) (by decide) (fun K hK => ?_)
                refine goes_ Try.func20 (by kernel_rfl) rfl #[.pointer (some ⟨h, 0, none⟩), .int .i64 o.f1, pkV o.f2] (by rfl) rfl rfl (by first | (simp only [List.map_toArray, List.map_cons, List.map_nil]; done) | (simp only [List.map_toArray, List.map_cons, List.map_nil]; rfl)) ?_
                with_reducible refine (two_rPut_full (qf _ _ _) H3 o.f1 o.f2 hfr).mono ?_
                rintro e w4 ⟨rfl, H4, hk4⟩
                refine ⟨_, rfl, ?_⟩
                have HN := Aside0.mk H4
                refine hK.out _ _ ?_
                clear hK K
                refine norm_ (a' := ?_) ?_ ?_
                rotate_left
                · show Act.put _ (some 46) _ = _
                  simp only [Act.put, List.setIfInBounds_toArray, List.set_cons_zero, List.set_cons_succ, i64_w, i32_w]
                  rfl
                refine pure_ (i := 12) (N := some 47) (v := ?_) (a' := ?_) #[true, true, true, true, true, true, true, true, true, true, true, true, true] rfl rfl (by kernel_rfl) (fun _ _ _ h => h) (Or.inl ⟨by rfl, ?_⟩) ?_ ?_
                rotate_left
                · intro w'
                  go_simp
                  with_reducible rfl
                rotate_left
                · simp only [Act.put, List.setIfInBounds_toArray, List.set_cons_zero, List.set_cons_succ, i64_w, i32_w]
                  rfl
                refine done_ (by kernel_rfl) ?_
                go_wp2_with fail
                go_meet
                case rel => exact ⟨n, q, r, ⟨⟨HN.out, HP1.out.rel, by omega, by omega⟩⟩⟩
              · have hfr : (r.L.length : Int) ≠ r.room := by rw [← hrel.many, ← hrel.room]; exact hfull
                refine start_ (n := 13) (S := fun w' => w'.cell? ⟨E, 1, none⟩ = some (.int .i64 o.f1) ∧ w'.cell? ⟨E, 2, none⟩ = some (.int .i64 o.f2.f0.f0) ∧ w'.cell? ⟨E, 3, none⟩ = some (.int .i64 o.f2.f0.f1) ∧ w'.cell? ⟨E, 4, none⟩ = some (.int .i64 o.f2.f0.f2) ∧ w'.cell? ⟨E, 5, none⟩ = some (.string o.f2.f0.f3) ∧ w'.cell? ⟨E, 6, none⟩ = some (.int .i64 o.f2.f1) ∧ w'.cell? ⟨E, 7, none⟩ = some (.int .i64 o.f2.f2) ∧ w'.cell? ⟨E, 8, none⟩ = some (.bool o.f2.f3)) (ds := [11]) #[false, false, false, false, false, false, false, false, false, false, false, false, false] (by kernel_rfl) rfl rfl ⟨((blk_cell HE.out 1).trans rfl), ((blk_cell HE.out 2).trans rfl), ((blk_cell HE.out 3).trans rfl), ((blk_cell HE.out 4).trans rfl), ((blk_cell HE.out 5).trans rfl), ((blk_cell HE.out 6).trans rfl), ((blk_cell HE.out 7).trans rfl), ((blk_cell HE.out 8).trans rfl)⟩ (fun hHeld => ?_)
                refine pure_ (i := 0) (N := some 35) (v := ?_) (a' := ?_) #[true, false, false, false, false, false, false, false, false, false, false, false, false] rfl rfl (by kernel_rfl) (fun _ _ _ h => h) (Or.inl ⟨by rfl, ?_⟩) ?_ ?_
                rotate_left
                · intro w'
                  go_simp
                  with_reducible rfl
                rotate_left
                · simp only [Act.put, List.setIfInBounds_toArray, List.set_cons_zero, List.set_cons_succ, i64_w, i32_w]
                  rfl
                refine pure_ (i := 1) (N := some 36) (v := ?_) (a' := ?_) #[true, true, false, false, false, false, false, false, false, false, false, false, false] rfl rfl (by kernel_rfl) (fun _ _ _ h => h) (Or.inl ⟨by rfl, ?_⟩) ?_ ?_
                rotate_left
                · intro w'
                  go_simp
                  with_reducible rfl
                rotate_left
                · simp only [Act.put, List.setIfInBounds_toArray, List.set_cons_zero, List.set_cons_succ, i64_w, i32_w]
                  rfl
                refine pure_ (i := 3) (N := some 38) (v := ?_) (a' := ?_) #[true, true, false, true, false, false, false, false, false, false, false, false, false] rfl rfl (by kernel_rfl) (fun _ _ _ h => h) (Or.inl ⟨by rfl, ?_⟩) ?_ ?_
                rotate_left
                · intro w'
                  go_simp
                  with_reducible rfl
                rotate_left
                · simp only [Act.put, List.setIfInBounds_toArray, List.set_cons_zero, List.set_cons_succ, i64_w, i32_w]
                  rfl
                refine pure_ (i := 6) (N := some 41) (v := ?_) (a' := ?_) #[true, true, false, true, false, false, true, false, false, false, false, false, false] rfl rfl (by kernel_rfl) (fun _ _ _ h => h) (Or.inl ⟨by rfl, ?_⟩) ?_ ?_
                rotate_left
                · intro w'
                  go_simp
                  with_reducible rfl
                rotate_left
                · simp only [Act.put, List.setIfInBounds_toArray, List.set_cons_zero, List.set_cons_succ, i64_w, i32_w]
                  rfl
                refine pure_ (i := 7) (N := some 42) (v := ?_) (a' := ?_) #[true, true, false, true, false, false, true, true, false, false, false, false, false] rfl rfl (by kernel_rfl) (fun _ _ _ h => h) (Or.inl ⟨by rfl, ?_⟩) ?_ ?_
                rotate_left
                · intro w'
                  go_simp
                  with_reducible rfl
                rotate_left
                · simp only [Act.put, List.setIfInBounds_toArray, List.set_cons_zero, List.set_cons_succ, i64_w, i32_w]
                  rfl
                refine pure_ (i := 9) (N := some 44) (v := ?_) (a' := ?_) #[true, true, false, true, false, false, true, true, false, true, false, false, false] rfl rfl (by kernel_rfl) (fun _ _ _ h => h) (Or.inl ⟨by rfl, ?_⟩) ?_ ?_
                rotate_left
                · intro w'
                  go_simp
                  with_reducible rfl
                rotate_left
                · simp only [Act.put, List.setIfInBounds_toArray, List.set_cons_zero, List.set_cons_succ, i64_w, i32_w]
                  rfl
                refine take_ (i := 2) (N := some 37) (v := ?_) (a' := ?_) #[true, true, true, true, false, false, true, true, false, true, false, false, false] rfl rfl (by kernel_rfl) (fun _ _ _ h => h) (Or.inl ⟨by rfl, ?_⟩) hHeld ?_ ?_
                rotate_left
                · rintro w' ⟨s0, s1, s2, s3, s4, s5, s6, s7⟩
                  go_simp
                  with_reducible rfl
                rotate_left
                · simp only [Act.put, List.setIfInBounds_toArray, List.set_cons_zero, List.set_cons_succ, i64_w, i32_w]
                  rfl
                refine take_ (i := 4) (N := some 39) (v := ?_) (a' := ?_) #[true, true, true, true, true, false, true, true, false, true, false, false, false] rfl rfl (by kernel_rfl) (fun _ _ _ h => h) (Or.inl ⟨by rfl, ?_⟩) hHeld ?_ ?_
                rotate_left
                · rintro w' ⟨s0, s1, s2, s3, s4, s5, s6, s7⟩
                  go_simp
                  with_reducible rfl
                rotate_left
                · simp only [Act.put, List.setIfInBounds_toArray, List.set_cons_zero, List.set_cons_succ, i64_w, i32_w]
                  rfl
                refine take_ (i := 8) (N := some 43) (v := ?_) (a' := ?_) #[true, true, true, true, true, false, true, true, true, true, false, false, false] rfl rfl (by kernel_rfl) (fun _ _ _ h => h) (Or.inl ⟨by rfl, ?_⟩) hHeld ?_ ?_
                rotate_left
                · rintro w' ⟨s0, s1, s2, s3, s4, s5, s6, s7⟩
                  go_simp
                  with_reducible rfl
                rotate_left
                · simp only [Act.put, List.setIfInBounds_toArray, List.set_cons_zero, List.set_cons_succ, i64_w, i32_w]
                  rfl
                refine take_ (i := 10) (N := some 45) (v := ?_) (a' := ?_) #[true, true, true, true, true, false, true, true, true, true, true, false, false] rfl rfl (by kernel_rfl) (fun _ _ _ h => h) (Or.inl ⟨by rfl, ?_⟩) hHeld ?_ ?_
                rotate_left
                · rintro w' ⟨s0, s1, s2, s3, s4, s5, s6, s7⟩
                  go_simp
                  with_reducible rfl
                rotate_left
                · simp only [Act.put, List.setIfInBounds_toArray, List.set_cons_zero, List.set_cons_succ, i64_w, i32_w]
                  rfl
                refine one_ (i := 5) (N := some 40) #[true, true, true, true, true, true, true, true, true, true, true, false, false] rfl rfl (by kernel_rfl) (by decide) (fun K hK => ?_)
                refine goes_ Try.func10 (by kernel_rfl) rfl #[.pointer (some ⟨g, 0, none⟩), .int .i64 o.f1, pkV o.f2] (by rfl) rfl rfl (by first | (simp only [List.map_toArray, List.map_cons, List.map_nil]; done) | (simp only [List.map_toArray, List.map_cons, List.map_nil]; rfl)) ?_
                with_reducible refine (two_Put (rf h r) (HP1.out.two.drew (qf _ _ _) (rf _ _)) o.f1 o.f2 (by omega) hok hfull).mono ?_
                rintro e w3 ⟨rfl, H3, hk3⟩
                refine ⟨_, rfl, ?_⟩
                have he3 := hk3.blk (show wc.drew.heap[E]? = some (.cells #[.int .i64 o.f0, .int .i64 o.f1, .int .i64 o.f2.f0.f0, .int .i64 o.f2.f0.f1, .int .i64 o.f2.f0.f2, .string o.f2.f0.f3, .int .i64 o.f2.f1, .int .i64 o.f2.f2, .bool o.f2.f3] 33 (0, 0)) from HE.out) rfl
                refine hK.out _ _ ⟨((blk_cell he3 1).trans rfl), ((blk_cell he3 2).trans rfl), ((blk_cell he3 3).trans rfl), ((blk_cell he3 4).trans rfl), ((blk_cell he3 5).trans rfl), ((blk_cell he3 6).trans rfl), ((blk_cell he3 7).trans rfl), ((blk_cell he3 8).trans rfl)⟩ (fun hHeld => ?_)
                clear hK K
                refine norm_ (a' := ?_) ?_ ?_
                rotate_left
                · show Act.put _ (some 40) _ = _
                  simp only [Act.put, List.setIfInBounds_toArray, List.set_cons_zero, List.set_cons_succ, i64_w, i32_w]
                  rfl
                refine last_ (i := 11) (N := some 46) #[true, true, true, true, true, true, true, true, true, true, true, true, false] rfl rfl (by kernel_rfl) (by decide) (fun K hK => ?_)
                refine goes_ Try.func20 (by kernel_rfl) rfl #[.pointer (some ⟨h, 0, none⟩), .int .i64 o.f1, pkV o.f2] (by rfl) rfl rfl (by first | (simp only [List.map_toArray, List.map_cons, List.map_nil]; done) | (simp only [List.map_toArray, List.map_cons, List.map_nil]; rfl)) ?_
                with_reducible refine (two_rPut (qf _ _ _) H3 o.f1 o.f2 hfr (by omega) (by rw [← hrel.bands]; exact hrel.b1) (by rw [← hrel.bands]; exact hrel.b2)).mono ?_
                rintro e w4 ⟨rfl, H4, hk4⟩
                refine ⟨_, rfl, ?_⟩
                have HN := Aside0.mk H4
                refine hK.out _ _ ?_
                clear hK K
                refine norm_ (a' := ?_) ?_ ?_
                rotate_left
                · show Act.put _ (some 46) _ = _
                  simp only [Act.put, List.setIfInBounds_toArray, List.set_cons_zero, List.set_cons_succ, i64_w, i32_w]
                  rfl
                refine pure_ (i := 12) (N := some 47) (v := ?_) (a' := ?_) #[true, true, true, true, true, true, true, true, true, true, true, true, true] rfl rfl (by kernel_rfl) (fun _ _ _ h => h) (Or.inl ⟨by rfl, ?_⟩) ?_ ?_
                rotate_left
                · intro w'
                  go_simp
                  with_reducible rfl
                rotate_left
                · simp only [Act.put, List.setIfInBounds_toArray, List.set_cons_zero, List.set_cons_succ, i64_w, i32_w]
                  rfl
                refine done_ (by kernel_rfl) ?_
                go_wp2_with fail
                go_meet
                case rel => exact ⟨n + 1, _, _, ⟨⟨HN.out, HP1.out.rel.put o.f1 o.f2, by omega, by show (r.L ++ [mkOne _ _]).length ≤ i + 1; rw [List.length_append]; simp; omega⟩⟩⟩
            · have k0b : (o.f0 == 0) = false := beq_eq_false_iff_ne.mpr k0
              by_cases k1 : o.f0 = 1
              · have k1b : (o.f0 == 1) = true := beq_iff_eq.mpr k1
                clear k1
                by_cases hno : q.many = 0 ∨ q.stopped = true
                · have hrno : fstU r.L r.L.length < 0 ∨ r.stopped = true := by
                    rcases hno with q1 | q1
                    · have : r.L = [] := List.eq_nil_of_length_eq_zero (by have := hrel.many; omega)
                      rw [this]
                      exact .inl (by decide)
                    · rw [← hrel.stopped]
                      exact .inr q1
                  go_wp2_with fail
                  refine (two_Take_no (rf h r) HP1.out.two hno).mono ?_
                  rintro e w3 ⟨rfl, H, _⟩
                  have H3 := Aside0.mk H
                  clear H
                  unfold pkV pkZ z31 z29
                  go_upto_region 13 with (fail)
                  obtain ⟨D1, hD1⟩ : ∃ D, D = w3.heap.size := ⟨_, rfl⟩
                  rw [← hD1]
                  refine wp_world (fun W => Two w W (QP g n (q)) (RP h r) (fun k => k = E ∨ k = D1) ∧ W.heap[D1]? = some (.cells #[.int .i64 0, .int .i64 0, .int .i64 0, .string ⟨#[]⟩, .int .i64 0, .int .i64 0, .bool false] 31 (0, 0))) ⟨H3.out.box (qf _ _ _) (rf _ _) _ hD1 (fun k hk => hk), by rw [hD1]; exact blk_new _ _⟩ ?_
                  rintro W4 ⟨H, hd⟩
                  have H4 := Aside0.mk H
                  have HD4 := Aside0.mk hd
                  clear H hd hD1 H3
                  go_wp2_with fail
                  refine (two_rTake_no (qf _ _ _) H4.out (by omega) hrno).mono ?_
                  rintro e w5 ⟨rfl, H, hk⟩
                  have H5 := Aside0.mk H
                  have HD5 := Aside0.mk (hk.blk HD4.out (.inr rfl))
                  clear H hk H4 HD4
                  unfold pkV pkZ z31 z29
                  go_upto_region 14 with (fail)
                  obtain ⟨D2, hD2⟩ : ∃ D, D = w5.heap.size := ⟨_, rfl⟩
                  rw [← hD2]
                  refine wp_world (fun W => Two w W (QP g n (q)) (RP h (r)) (fun k => k = E) ∧ W.heap[D1]? = some (.cells #[.int .i64 0, .int .i64 0, .int .i64 0, .string ⟨#[]⟩, .int .i64 0, .int .i64 0, .bool false] 31 (0, 0)) ∧ W.heap[D2]? = some (.cells #[.int .i64 0, .int .i64 0, .int .i64 0, .string ⟨#[]⟩, .int .i64 0, .int .i64 0, .bool false] 31 (0, 0))) ⟨H5.out.protect (qf _ _ _) (rf _ _) (fun k hk => .inl (.inl hk)) (below_alloc (Below.refl _ _) _), ((Turn.refl (fun _ => False) w5).alloc _).blk HD5.out (fun x => x), by rw [hD2]; exact blk_new _ _⟩ ?_
                  rintro W6 ⟨H, hd1, hd2⟩
                  have H6 := Aside0.mk H
                  have m0 : W6.cell? ⟨D1, 0, none⟩ = some (.int .i64 0) := (blk_cell hd1 0).trans rfl
                  have m1 : W6.cell? ⟨D1, 1, none⟩ = some (.int .i64 0) := (blk_cell hd1 1).trans rfl
                  have m2 : W6.cell? ⟨D1, 2, none⟩ = some (.int .i64 0) := (blk_cell hd1 2).trans rfl
                  have m3 : W6.cell? ⟨D1, 3, none⟩ = some (.string ⟨#[]⟩) := (blk_cell hd1 3).trans rfl
                  have m4 : W6.cell? ⟨D1, 4, none⟩ = some (.int .i64 0) := (blk_cell hd1 4).trans rfl
                  have m5 : W6.cell? ⟨D1, 5, none⟩ = some (.int .i64 0) := (blk_cell hd1 5).trans rfl
                  have m6 : W6.cell? ⟨D1, 6, none⟩ = some (.bool false) := (blk_cell hd1 6).trans rfl
                  have p0 : W6.cell? ⟨D2, 0, none⟩ = some (.int .i64 0) := (blk_cell hd2 0).trans rfl
                  have p1 : W6.cell? ⟨D2, 1, none⟩ = some (.int .i64 0) := (blk_cell hd2 1).trans rfl
                  have p2 : W6.cell? ⟨D2, 2, none⟩ = some (.int .i64 0) := (blk_cell hd2 2).trans rfl
                  have p3 : W6.cell? ⟨D2, 3, none⟩ = some (.string ⟨#[]⟩) := (blk_cell hd2 3).trans rfl
                  have p4 : W6.cell? ⟨D2, 4, none⟩ = some (.int .i64 0) := (blk_cell hd2 4).trans rfl
                  have p5 : W6.cell? ⟨D2, 5, none⟩ = some (.int .i64 0) := (blk_cell hd2 5).trans rfl
                  have p6 : W6.cell? ⟨D2, 6, none⟩ = some (.bool false) := (blk_cell hd2 6).trans rfl
                  clear H hd1 hd2 hD2 H5 HD5
                  go_wp2_with fail
                  go_meet
                  case rel => exact ⟨n, q, r, ⟨⟨H6.out, HP1.out.rel, by omega, by omega⟩⟩⟩
                · have hm0 : q.many ≠ 0 := fun e => hno (.inl e)
                  have hs0 : q.stopped = false := by
                    cases hq : q.stopped
                    · rfl
                    · exact absurd (.inr hq) hno
                  obtain ⟨kk, o2, i2, hf, hkl, ho2, hi2, hib, hrow, hbelow, hrel2⟩ := hrel.first (by have := hrel.many; omega)
                  have hs1 : r.stopped = false := by rw [← hrel.stopped]; exact hs0
                  have HR2 := Aside0.mk hrel2
                  have HH := Aside0.mk (And.intro hs0 (And.intro hs1 (And.intro hf (And.intro ho2 (And.intro hrow hbelow)))))
                  have HL2 := Aside0.mk (show (rtake r kk).L.length ≤ i by show (r.L.take kk ++ r.L.drop (kk + 1)).length ≤ i; rw [List.length_append, List.length_take, List.length_drop]; omega)
                  clear hno hs0 hs1 hf ho2 hrow hbelow hrel2 hi2
                  go_wp2_with fail
                  refine (two_Take (rf h r) HP1.out.two (by omega) hok i2 o2.f1 _ hib HH.out.2.2.2.2.1 HH.out.2.2.2.2.2 hm0 HH.out.1).mono ?_
                  rintro e w3 ⟨rfl, H, _⟩
                  have H3 := Aside0.mk H
                  clear H
                  unfold pkV
                  go_upto_region 13 with (fail)
                  obtain ⟨D1, hD1⟩ : ∃ D, D = w3.heap.size := ⟨_, rfl⟩
                  rw [← hD1]
                  refine wp_world (fun W => Two w W (QP g (n + 1) (takeQ q i2 (bandR (r.L.take kk ++ r.L.drop (kk + 1)) i2))) (RP h r) (fun k => k = E ∨ k = D1) ∧ W.heap[D1]? = some (.cells #[.int .i64 o2.f1.f0.f0, .int .i64 o2.f1.f0.f1, .int .i64 o2.f1.f0.f2, .string o2.f1.f0.f3, .int .i64 o2.f1.f1, .int .i64 o2.f1.f2, .bool o2.f1.f3] 31 (0, 0))) ⟨H3.out.box (qf _ _ _) (rf _ _) _ hD1 (fun k hk => hk), by rw [hD1]; exact blk_new _ _⟩ ?_
                  rintro W4 ⟨H, hd⟩
                  have H4 := Aside0.mk H
                  have HD4 := Aside0.mk hd
                  clear H hd hD1 H3
                  go_wp2_with fail
                  refine (two_rTake (qf _ _ _) H4.out (by omega) kk hkl HH.out.2.2.1 o2 HH.out.2.2.2.1 HH.out.2.1).mono ?_
                  rintro e w5 ⟨rfl, H, hk⟩
                  have H5 := Aside0.mk H
                  have HD5 := Aside0.mk (hk.blk HD4.out (.inr rfl))
                  clear H hk H4 HD4
                  unfold pkV
                  go_upto_region 14 with (fail)
                  obtain ⟨D2, hD2⟩ : ∃ D, D = w5.heap.size := ⟨_, rfl⟩
                  rw [← hD2]
                  refine wp_world (fun W => Two w W (QP g (n + 1) (takeQ q i2 (bandR (r.L.take kk ++ r.L.drop (kk + 1)) i2))) (RP h (rtake r kk)) (fun k => k = E) ∧ W.heap[D1]? = some (.cells #[.int .i64 o2.f1.f0.f0, .int .i64 o2.f1.f0.f1, .int .i64 o2.f1.f0.f2, .string o2.f1.f0.f3, .int .i64 o2.f1.f1, .int .i64 o2.f1.f2, .bool o2.f1.f3] 31 (0, 0)) ∧ W.heap[D2]? = some (.cells #[.int .i64 o2.f1.f0.f0, .int .i64 o2.f1.f0.f1, .int .i64 o2.f1.f0.f2, .string o2.f1.f0.f3, .int .i64 o2.f1.f1, .int .i64 o2.f1.f2, .bool o2.f1.f3] 31 (0, 0))) ⟨H5.out.protect (qf _ _ _) (rf _ _) (fun k hk => .inl (.inl hk)) (below_alloc (Below.refl _ _) _), ((Turn.refl (fun _ => False) w5).alloc _).blk HD5.out (fun x => x), by rw [hD2]; exact blk_new _ _⟩ ?_
                  rintro W6 ⟨H, hd1, hd2⟩
                  have H6 := Aside0.mk H
                  have m0 : W6.cell? ⟨D1, 0, none⟩ = some (.int .i64 o2.f1.f0.f0) := (blk_cell hd1 0).trans rfl
                  have m1 : W6.cell? ⟨D1, 1, none⟩ = some (.int .i64 o2.f1.f0.f1) := (blk_cell hd1 1).trans rfl
                  have m2 : W6.cell? ⟨D1, 2, none⟩ = some (.int .i64 o2.f1.f0.f2) := (blk_cell hd1 2).trans rfl
                  have m3 : W6.cell? ⟨D1, 3, none⟩ = some (.string o2.f1.f0.f3) := (blk_cell hd1 3).trans rfl
                  have m4 : W6.cell? ⟨D1, 4, none⟩ = some (.int .i64 o2.f1.f1) := (blk_cell hd1 4).trans rfl
                  have m5 : W6.cell? ⟨D1, 5, none⟩ = some (.int .i64 o2.f1.f2) := (blk_cell hd1 5).trans rfl
                  have m6 : W6.cell? ⟨D1, 6, none⟩ = some (.bool o2.f1.f3) := (blk_cell hd1 6).trans rfl
                  have p0 : W6.cell? ⟨D2, 0, none⟩ = some (.int .i64 o2.f1.f0.f0) := (blk_cell hd2 0).trans rfl
                  have p1 : W6.cell? ⟨D2, 1, none⟩ = some (.int .i64 o2.f1.f0.f1) := (blk_cell hd2 1).trans rfl
                  have p2 : W6.cell? ⟨D2, 2, none⟩ = some (.int .i64 o2.f1.f0.f2) := (blk_cell hd2 2).trans rfl
                  have p3 : W6.cell? ⟨D2, 3, none⟩ = some (.string o2.f1.f0.f3) := (blk_cell hd2 3).trans rfl
                  have p4 : W6.cell? ⟨D2, 4, none⟩ = some (.int .i64 o2.f1.f1) := (blk_cell hd2 4).trans rfl
                  have p5 : W6.cell? ⟨D2, 5, none⟩ = some (.int .i64 o2.f1.f2) := (blk_cell hd2 5).trans rfl
                  have p6 : W6.cell? ⟨D2, 6, none⟩ = some (.bool o2.f1.f3) := (blk_cell hd2 6).trans rfl
                  clear H hd1 hd2 hD2 H5 HD5
                  go_wp2_with fail
                  go_meet
                  case rel => exact ⟨n + 1, _, _, ⟨⟨H6.out, HR2.out, by omega, by have := HL2.out; omega⟩⟩⟩
              · have k1b : (o.f0 == 1) = false := beq_eq_false_iff_ne.mpr k1
                by_cases k2 : o.f0 = 2
                · have k2b : (o.f0 == 2) = true := beq_iff_eq.mpr k2
                  clear k2
                  go_wp2_with fail
                  refine (two_Stop (rf h r) HP1.out.two).mono ?_
                  rintro e w3 ⟨rfl, H, _⟩
                  have H3 := Aside0.mk H
                  obtain ⟨_, c3, z⟩ := two_rcells H
                  clear H
                  go_wp2_with fail
                  go_meet
                  case rel => exact ⟨n, _, _, ⟨⟨(two_rstop (qf _ _ _) H3.out true).1, HP1.out.rel.stop true, by omega, by show r.L.length ≤ i + 1; omega⟩⟩⟩
                · have k2b : (o.f0 == 2) = false := beq_eq_false_iff_ne.mpr k2
                  by_cases k3 : o.f0 = 3
                  · have k3b : (o.f0 == 3) = true := beq_iff_eq.mpr k3
                    clear k3
                    go_wp2_with fail
                    refine (two_Wake (rf h r) HP1.out.two).mono ?_
                    rintro e w3 ⟨rfl, H, _⟩
                    have H3 := Aside0.mk H
                    obtain ⟨_, c3, z⟩ := two_rcells H
                    clear H
                    go_wp2_with fail
                    go_meet
                    case rel => exact ⟨n, _, _, ⟨⟨(two_rstop (qf _ _ _) H3.out false).1, HP1.out.rel.stop false, by omega, by show r.L.length ≤ i + 1; omega⟩⟩⟩
                  · have k3b : (o.f0 == 3) = false := beq_eq_false_iff_ne.mpr k3
                    by_cases k4 : o.f0 = 4
                    · have k4b : (o.f0 == 4) = true := beq_iff_eq.mpr k4
                      clear k4
                      go_upto_region 23 with (fail)
                      obtain ⟨S1, S2, hS1, ⟨v2, hI2⟩, hdis, hbs, hxs, hBs⟩ := HP1.out.two
                      obtain ⟨A2, c2, hv2, _, _⟩ := hI2.row.reads
                      have c0 := hI2.c0
                      rw [hv2] at c0
                      have hh : ¬ S1 h := fun q1 => hdis h q1 hI2.sh
                      have hmn : (q.many != (r.L.length : Int)) = false := by rw [hrel.many]; simp
                      have HS := Aside0.mk (And.intro hS1 (And.intro hI2 (And.intro hdis (And.intro hbs (And.intro hxs hBs)))))
                      clear hS1 hI2 hdis hbs hxs hBs hv2
                      refine start_ (n := 8) (S := fun w' => w'.cell? ⟨h, 0, none⟩ = some (.slice A2 r.L.length c2)) (ds := []) #[false, false, false, false, false, false, false, false] (by kernel_rfl) rfl rfl (c0) (fun hHeld => ?_)
                      refine pure_ (i := 0) (N := some 93) (v := ?_) (a' := ?_) #[true, false, false, false, false, false, false, false] rfl rfl (by kernel_rfl) (fun _ _ _ h => h) (Or.inl ⟨by rfl, ?_⟩) ?_ ?_
                      rotate_left
                      · intro w'
                        go_simp
                        with_reducible rfl
                      rotate_left
                      · simp only [Act.put, List.setIfInBounds_toArray, List.set_cons_zero, List.set_cons_succ, i64_w, i32_w]
                        rfl
                      refine pure_ (i := 2) (N := some 95) (v := ?_) (a' := ?_) #[true, false, true, false, false, false, false, false] rfl rfl (by kernel_rfl) (fun _ _ _ h => h) (Or.inl ⟨by rfl, ?_⟩) ?_ ?_
                      rotate_left
                      · intro w'
                        go_simp
                        with_reducible rfl
                      rotate_left
                      · simp only [Act.put, List.setIfInBounds_toArray, List.set_cons_zero, List.set_cons_succ, i64_w, i32_w]
                        rfl
                      refine pure_ (i := 3) (N := some 96) (v := ?_) (a' := ?_) #[true, false, true, true, false, false, false, false] rfl rfl (by kernel_rfl) (fun _ _ _ h => h) (Or.inl ⟨by rfl, ?_⟩) ?_ ?_
                      rotate_left
                      · intro w'
                        go_simp
                        with_reducible rfl
                      rotate_left
                      · simp only [Act.put, List.setIfInBounds_toArray, List.set_cons_zero, List.set_cons_succ, i64_w, i32_w]
                        rfl
                      refine pure_ (i := 4) (N := some 97) (v := ?_) (a' := ?_) #[true, false, true, true, true, false, false, false] rfl rfl (by kernel_rfl) (fun _ _ _ h => h) (Or.inl ⟨by rfl, ?_⟩) ?_ ?_
                      rotate_left
                      · intro w'
                        go_simp
                        with_reducible rfl
                      rotate_left
                      · simp only [Act.put, List.setIfInBounds_toArray, List.set_cons_zero, List.set_cons_succ, i64_w, i32_w]
                        rfl
                      refine take_ (i := 5) (N := some 98) (v := ?_) (a' := ?_) #[true, false, true, true, true, true, false, false] rfl rfl (by kernel_rfl) (fun _ _ _ h => h) (Or.inl ⟨by rfl, ?_⟩) hHeld ?_ ?_
                      rotate_left
                      · intro w' s0
                        go_simp
                        with_reducible rfl
                      rotate_left
                      · simp only [Act.put, List.setIfInBounds_toArray, List.set_cons_zero, List.set_cons_succ, i64_w, i32_w]
                        rfl
                      refine pure_ (i := 6) (N := some 99) (v := ?_) (a' := ?_) #[true, false, true, true, true, true, true, false] rfl rfl (by kernel_rfl) (fun _ _ _ h => h) (Or.inl ⟨by rfl, ?_⟩) ?_ ?_
                      rotate_left
                      · intro w'
                        go_simp
                        with_reducible rfl
                      rotate_left
                      · simp only [Act.put, List.setIfInBounds_toArray, List.set_cons_zero, List.set_cons_succ, i64_w, i32_w]
                        rfl
                      refine one_ (i := 1) (N := some 94) #[true, true, true, true, true, true, true, false] rfl rfl (by kernel_rfl) (by decide) (fun K hK => ?_)
                      refine goes_ Try.func22 (by kernel_rfl) rfl #[.pointer (some ⟨g, 0, none⟩)] (by rfl) rfl rfl (by first | (simp only [List.map_toArray, List.map_cons, List.map_nil]; done) | (simp only [List.map_toArray, List.map_cons, List.map_nil]; rfl)) ?_
                      with_reducible refine (band_Flush (IsBand.turn (qp_is HS.out.1) ((Turn.refl (fun _ => False) _).drew) (fun _ _ x => x)) (fun h0 => HP1.out.rel.empty h0)).mono ?_
                      rintro e w3 ⟨rfl, hB3, hT3⟩
                      refine ⟨_, rfl, ?_⟩
                      have hT3' : Turn S1 wc w3 := ⟨hT3.os, hT3.tape, hT3.output, hT3.size, hT3.block⟩
                      have HF3 := Aside0.mk (Two.step1 (P := QP g n q) (P' := QP g n { q with rows := fun _ => [], many := 0 }) (Q := RP h r) (rf h r) (qf _ _ _) ⟨HS.out.1, ⟨v2, HS.out.2.1⟩, HS.out.2.2⟩ hB3 hT3' (fun k hk => .inl hk) (fun k hk => HS.out.2.1.lt k hk)).1
                      refine hK.out _ _ ((hT3'.cell c0 hh)) (fun hHeld => ?_)
                      clear hK K
                      refine norm_ (a' := ?_) ?_ ?_
                      rotate_left
                      · show Act.put _ (some 94) _ = _
                        simp only [Act.put, List.setIfInBounds_toArray, List.set_cons_zero, List.set_cons_succ, i64_w, i32_w]
                        rfl
                      refine pure_ (i := 7) (N := some 100) (v := ?_) (a' := ?_) #[true, true, true, true, true, true, true, true] rfl rfl (by kernel_rfl) (fun _ _ _ h => h) (Or.inl ⟨by rfl, ?_⟩) ?_ ?_
                      rotate_left
                      · intro w'
                        go_simp
                        with_reducible rfl
                      rotate_left
                      · simp only [Act.put, List.setIfInBounds_toArray, List.set_cons_zero, List.set_cons_succ, i64_w, i32_w]
                        rfl
                      refine done_ (by kernel_rfl) ?_
                      obtain ⟨⟨A3, c3, d0⟩, _, z⟩ := two_rcells HF3.out
                      clear hHeld
                      go_wp2_with fail
                      go_meet
                      case rel => exact ⟨n, _, _, ⟨⟨(two_rnil (qf _ _ _) HF3.out).1, HP1.out.rel.flush, by omega, Nat.zero_le _⟩⟩⟩
                    · have k4b : (o.f0 == 4) = false := beq_eq_false_iff_ne.mpr k4
                      go_wp2_with fail
                      go_meet
                      case rel => exact ⟨n, q, r, ⟨⟨HP1.out.two, HP1.out.rel, by omega, by omega⟩⟩⟩
          case rest =>
            clear HP1 HE
            obtain ⟨n2, q2, r2, HP2⟩ := hcut
            obtain ⟨⟨A2, c2, c0⟩, c3, z⟩ := two_rcells HP2.out.two
            have hmn : (q2.many != (r2.L.length : Int)) = false := by rw [HP2.out.rel.many]; simp
            have hsn : (!(q2.stopped == r2.stopped)) = false := by rw [HP2.out.rel.stopped]; simp
            apply_assumption
            go_upto_region 26 with (fail)
            refine start_ (n := 17) (S := fun w' => w'.cell? ⟨h, 0, none⟩ = some (.slice A2 r2.L.length c2) ∧ w'.cell? ⟨h, 3, none⟩ = some (.bool r2.stopped)) (ds := []) #[false, false, false, false, false, false, false, false, false, false, false, false, false, false, false, false, false] (by kernel_rfl) rfl rfl ⟨c0, c3⟩ (fun hHeld => ?_)
            refine pure_ (i := 0) (N := some 104) (v := ?_) (a' := ?_) #[true, false, false, false, false, false, false, false, false, false, false, false, false, false, false, false, false] rfl rfl (by kernel_rfl) (fun _ _ _ h => h) (Or.inl ⟨by rfl, ?_⟩) ?_ ?_
            rotate_left
            · intro w'
              go_simp
              with_reducible rfl
            rotate_left
            · simp only [Act.put, List.setIfInBounds_toArray, List.set_cons_zero, List.set_cons_succ, i64_w, i32_w]
              rfl
            refine pure_ (i := 2) (N := some 106) (v := ?_) (a' := ?_) #[true, false, true, false, false, false, false, false, false, false, false, false, false, false, false, false, false] rfl rfl (by kernel_rfl) (fun _ _ _ h => h) (Or.inl ⟨by rfl, ?_⟩) ?_ ?_
            rotate_left
            · intro w'
              go_simp
              with_reducible rfl
            rotate_left
            · simp only [Act.put, List.setIfInBounds_toArray, List.set_cons_zero, List.set_cons_succ, i64_w, i32_w]
              rfl
            refine pure_ (i := 3) (N := some 107) (v := ?_) (a' := ?_) #[true, false, true, true, false, false, false, false, false, false, false, false, false, false, false, false, false] rfl rfl (by kernel_rfl) (fun _ _ _ h => h) (Or.inl ⟨by rfl, ?_⟩) ?_ ?_
            rotate_left
            · intro w'
              go_simp
              with_reducible rfl
            rotate_left
            · simp only [Act.put, List.setIfInBounds_toArray, List.set_cons_zero, List.set_cons_succ, i64_w, i32_w]
              rfl
            refine pure_ (i := 4) (N := some 108) (v := ?_) (a' := ?_) #[true, false, true, true, true, false, false, false, false, false, false, false, false, false, false, false, false] rfl rfl (by kernel_rfl) (fun _ _ _ h => h) (Or.inl ⟨by rfl, ?_⟩) ?_ ?_
            rotate_left
            · intro w'
              go_simp
              with_reducible rfl
            rotate_left
            · simp only [Act.put, List.setIfInBounds_toArray, List.set_cons_zero, List.set_cons_succ, i64_w, i32_w]
              rfl
            refine take_ (i := 5) (N := some 109) (v := ?_) (a' := ?_) #[true, false, true, true, true, true, false, false, false, false, false, false, false, false, false, false, false] rfl rfl (by kernel_rfl) (fun _ _ _ h => h) (Or.inl ⟨by rfl, ?_⟩) hHeld ?_ ?_
            rotate_left
            · rintro w' ⟨s0, s1⟩
              go_simp
              with_reducible rfl
            rotate_left
            · simp only [Act.put, List.setIfInBounds_toArray, List.set_cons_zero, List.set_cons_succ, i64_w, i32_w]
              rfl
            refine pure_ (i := 6) (N := some 110) (v := ?_) (a' := ?_) #[true, false, true, true, true, true, true, false, false, false, false, false, false, false, false, false, false] rfl rfl (by kernel_rfl) (fun _ _ _ h => h) (Or.inl ⟨by rfl, ?_⟩) ?_ ?_
            rotate_left
            · intro w'
              go_simp
              with_reducible rfl
            rotate_left
            · simp only [Act.put, List.setIfInBounds_toArray, List.set_cons_zero, List.set_cons_succ, i64_w, i32_w]
              rfl
            refine one_ (i := 1) (N := some 105) #[true, true, true, true, true, true, true, false, false, false, false, false, false, false, false, false, false] rfl rfl (by kernel_rfl) (by decide) (fun K hK => ?_)
            refine goes_ Try.func16 (by kernel_rfl) rfl #[.pointer (some ⟨g, 0, none⟩)] (by rfl) rfl rfl (by first | (simp only [List.map_toArray, List.map_cons, List.map_nil]; done) | (simp only [List.map_toArray, List.map_cons, List.map_nil]; rfl)) ?_
            with_reducible refine (two_Len (HP2.out.two.drew (qf _ _ _) (rf _ _))).mono ?_
            rintro e w4 ⟨rfl, rfl⟩
            refine ⟨_, rfl, ?_⟩
            refine hK.out _ _ ⟨c0, c3⟩ (fun hHeld => ?_)
            clear hK K
            refine norm_ (a' := ?_) ?_ ?_
            rotate_left
            · show Act.put _ (some 105) _ = _
              simp only [Act.put, List.setIfInBounds_toArray, List.set_cons_zero, List.set_cons_succ, i64_w, i32_w]
              rfl
            refine pure_ (i := 7) (N := some 111) (v := ?_) (a' := ?_) #[true, true, true, true, true, true, true, true, false, false, false, false, false, false, false, false, false] rfl rfl (by kernel_rfl) (fun _ _ _ h => h) (Or.inl ⟨by rfl, ?_⟩) ?_ ?_
            rotate_left
            · intro w'
              go_simp
              with_reducible rfl
            rotate_left
            · simp only [Act.put, List.setIfInBounds_toArray, List.set_cons_zero, List.set_cons_succ, i64_w, i32_w]
              rfl
            refine pure_ (i := 8) (N := some 112) (v := ?_) (a' := ?_) #[true, true, true, true, true, true, true, true, true, false, false, false, false, false, false, false, false] rfl rfl (by kernel_rfl) (fun _ _ _ h => h) (Or.inl ⟨by rfl, ?_⟩) ?_ ?_
            rotate_left
            · intro w'
              go_simp
              with_reducible rfl
            rotate_left
            · simp only [Act.put, List.setIfInBounds_toArray, List.set_cons_zero, List.set_cons_succ, i64_w, i32_w]
              rfl
            refine pure_ (i := 9) (N := some 113) (v := ?_) (a' := ?_) #[true, true, true, true, true, true, true, true, true, true, false, false, false, false, false, false, false] rfl rfl (by kernel_rfl) (fun _ _ _ h => h) (Or.inl ⟨by rfl, ?_⟩) ?_ ?_
            rotate_left
            · intro w'
              go_simp
              with_reducible rfl
            rotate_left
            · simp only [Act.put, List.setIfInBounds_toArray, List.set_cons_zero, List.set_cons_succ, i64_w, i32_w]
              rfl
            refine pure_ (i := 11) (N := some 115) (v := ?_) (a' := ?_) #[true, true, true, true, true, true, true, true, true, true, false, true, false, false, false, false, false] rfl rfl (by kernel_rfl) (fun _ _ _ h => h) (Or.inl ⟨by rfl, ?_⟩) ?_ ?_
            rotate_left
            · intro w'
              go_simp
              with_reducible rfl
            rotate_left
            · simp only [Act.put, List.setIfInBounds_toArray, List.set_cons_zero, List.set_cons_succ, i64_w, i32_w]
              rfl
            refine pure_ (i := 12) (N := some 116) (v := ?_) (a' := ?_) #[true, true, true, true, true, true, true, true, true, true, false, true, true, false, false, false, false] rfl rfl (by kernel_rfl) (fun _ _ _ h => h) (Or.inl ⟨by rfl, ?_⟩) ?_ ?_
            rotate_left
            · intro w'
              go_simp
              with_reducible rfl
            rotate_left
            · simp only [Act.put, List.setIfInBounds_toArray, List.set_cons_zero, List.set_cons_succ, i64_w, i32_w]
              rfl
            refine pure_ (i := 13) (N := some 117) (v := ?_) (a' := ?_) #[true, true, true, true, true, true, true, true, true, true, false, true, true, true, false, false, false] rfl rfl (by kernel_rfl) (fun _ _ _ h => h) (Or.inl ⟨by rfl, ?_⟩) ?_ ?_
            rotate_left
            · intro w'
              go_simp
              with_reducible rfl
            rotate_left
            · simp only [Act.put, List.setIfInBounds_toArray, List.set_cons_zero, List.set_cons_succ, i64_w, i32_w]
              rfl
            refine take_ (i := 14) (N := some 118) (v := ?_) (a' := ?_) #[true, true, true, true, true, true, true, true, true, true, false, true, true, true, true, false, false] rfl rfl (by kernel_rfl) (fun _ _ _ h => h) (Or.inl ⟨by rfl, ?_⟩) hHeld ?_ ?_
            rotate_left
            · rintro w' ⟨s0, s1⟩
              go_simp
              with_reducible rfl
            rotate_left
            · simp only [Act.put, List.setIfInBounds_toArray, List.set_cons_zero, List.set_cons_succ, i64_w, i32_w]
              rfl
            refine one_ (i := 10) (N := some 114) #[true, true, true, true, true, true, true, true, true, true, true, true, true, true, true, false, false] rfl rfl (by kernel_rfl) (by decide) (fun K hK => ?_)
            refine goes_ Try.func13 (by kernel_rfl) rfl #[.pointer (some ⟨g, 0, none⟩)] (by rfl) rfl rfl (by first | (simp only [List.map_toArray, List.map_cons, List.map_nil]; done) | (simp only [List.map_toArray, List.map_cons, List.map_nil]; rfl)) ?_
            with_reducible refine (two_Stopped (HP2.out.two.drew (qf _ _ _) (rf _ _))).mono ?_
            rintro e w5 ⟨rfl, rfl⟩
            refine ⟨_, rfl, ?_⟩
            refine hK.out _ _ ⟨c0, c3⟩ (fun hHeld => ?_)
            clear hK K
            refine norm_ (a' := ?_) ?_ ?_
            rotate_left
            · show Act.put _ (some 114) _ = _
              simp only [Act.put, List.setIfInBounds_toArray, List.set_cons_zero, List.set_cons_succ, i64_w, i32_w]
              rfl
            refine pure_ (i := 15) (N := some 119) (v := ?_) (a' := ?_) #[true, true, true, true, true, true, true, true, true, true, true, true, true, true, true, true, false] rfl rfl (by kernel_rfl) (fun _ _ _ h => h) (Or.inl ⟨by rfl, ?_⟩) ?_ ?_
            rotate_left
            · intro w'
              go_simp
              with_reducible rfl
            rotate_left
            · simp only [Act.put, List.setIfInBounds_toArray, List.set_cons_zero, List.set_cons_succ, i64_w, i32_w]
              rfl
            refine pure_ (i := 16) (N := some 120) (v := ?_) (a' := ?_) #[true, true, true, true, true, true, true, true, true, true, true, true, true, true, true, true, true] rfl rfl (by kernel_rfl) (fun _ _ _ h => h) (Or.inl ⟨by rfl, ?_⟩) ?_ ?_
            rotate_left
            · intro w'
              go_simp
              with_reducible rfl
            rotate_left
            · simp only [Act.put, List.setIfInBounds_toArray, List.set_cons_zero, List.set_cons_succ, i64_w, i32_w]
              rfl
            refine done_ (by kernel_rfl) ?_
            have HP3 := Aside0.mk (show PlB w _ g h (i + 1) (fun _ => False) n2 q2 r2 from ⟨(HP2.out.two.drew (qf _ _ _) (rf _ _)).protect (qf _ _ _) (rf _ _) (fun k hk => hk.elim) (Below.refl _ _), HP2.out.rel, HP2.out.n, HP2.out.len⟩)
            clear HP2 c0 c3 z
            go_wp2_with fail
            exact ⟨⟨i + 1, n2, q2, r2, by omega, congrArg (Value.int .i64) (by omega), HP3⟩, by simp only [intOf]; omega⟩
      · have v1 : decide ((i : Int) < (l.length : Int)) = false := decide_eq_false (by omega)
        have hok := HP.out.rel.ok (by have := HP.out.len; omega)
        have hlen := HP.out.len
        go_wp2_with fail
        refine (two_All (rf h r) HP.out.two hok).mono ?_
        rintro e w4 ⟨u1, rfl, hx1, H4, _, _, _⟩
        have H4' := Aside0.mk H4
        have HX1 := Aside0.mk hx1
        obtain ⟨A1, c1, rfl, hc1, hC1⟩ := hx1.reads
        clear H4 hC1
        go_wp2_with fail
        refine (two_rAll (qf _ _ _) H4'.out (by omega) (by rw [← HP.out.rel.bands]; exact HP.out.rel.b2)).mono ?_
        rintro e w5 ⟨u2, rfl, hx2, H5, hk5, _, _⟩
        have H5' := Aside0.mk H5
        have hx1' := HX1.out.keep (w1 := w5) (fun k hk => hk5 k (.inr hk))
        obtain ⟨A2, c2, rfl, hc2, hC2⟩ := hx2.reads
        obtain ⟨A3, c3, e3, hc3, hC3⟩ := hx1'.reads
        have hall : allR r.L r.bands.toNat = allQ q q.bands.toNat := by rw [HP.out.rel.all, HP.out.rel.bands]
        rw [hall] at hC2 hc2
        have hlb : (allQ q q.bands.toNat).length ≤ 4611686018427387904 := by
          have := allQ_len q hok.len q.bands.toNat
          have := hok.b2
          have : q.bands.toNat ≤ 1000 := by omega
          have := Nat.mul_le_mul_right 1000000 this
          omega
        have HSm := Aside0.mk (signalboxref15_Same.calls _ A1 c1 (allQ q q.bands.toNat) A2 c2 (allQ q q.bands.toNat) true w5 (by injection e3 with e3 _ _; rw [e3]; exact hC3) hc1 hC2 hc2 (same_f _ hlb))
        have HALL := Aside0.mk hall
        clear H5 hk5 hx2 hx1' hC2 hC3 HX1 H4' e3 hall
        go_wp2_with fail
        rw [HALL.out]
        refine HSm.out.mono ?_
        rintro e w6 ⟨rfl, ⟨⟨nd, rfl⟩⟩⟩
        go_wp2_with fail
        refine (alive15 _).mono ?_
        rintro e w7 ⟨rfl, hb7⟩
        go_wp2_with fail
        go_ret
        exact ⟨rfl, H5'.out.below.trans (((Below.refl _ _).trans (pw_below_drewN (Below.refl _ _) nd)).trans (hb7.mono (Nat.le_refl _)) |>.mono H5'.out.below.size)⟩
end Go.Proofs.Ytkmhdibabdifbaa.P
