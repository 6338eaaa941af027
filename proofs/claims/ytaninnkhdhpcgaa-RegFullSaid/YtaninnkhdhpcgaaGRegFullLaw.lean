/- RegFull's walk: room for 51200 entries, and for no more; the filter's word is a number of 32 bits. -/
import Derived.Test.YtaninnkhdhpcgaaGRegNil
import Derived.Test.YtaninnkhdhpcgaaGRegA
import Derived.Test.YtaninnkhdhpcgaaGRegOpen
namespace Go.Proofs.Ytaninnkhdhpcgaa.P
open Go.RowKit Go.Proofs.YtaninnkhdhpcgaaW.PrintWords Go.Proofs.YtaninnkhdhpcgaaW.PrintLast Go.Proofs.YtaninnkhdhpcgaaW.PrintMore
set_option linter.unusedVariables false
set_option linter.unusedSimpArgs false

def fulE (f : Flt) (i : Nat) : Ent := ⟨(i : Int), f, (i : Int)⟩
def fulL (f : Flt) (n : Nat) : List Ent := (List.range n).map (fulE f)
def fulR (f : Flt) (n : Nat) : RGv := ⟨n, fulL f n⟩
theorem ful_len (f : Flt) (n : Nat) : (fulL f n).length = n := by unfold fulL; simp
theorem ful_add (f : Flt) (n : Nat) : addR (fulR f n) (n : Int) f = fulR f (n + 1) := by
  unfold addR fulR fulL
  rw [List.range_succ, List.map_append]
  rfl
theorem ful_mem {f : Flt} {n : Nat} {e : Ent} (h : e ∈ fulL f n) : ∃ i, i < n ∧ e = fulE f i := by
  unfold fulL at h
  obtain ⟨i, hi, rfl⟩ := List.mem_map.1 h
  exact ⟨i, List.mem_range.1 hi, rfl⟩
theorem ful_ok (f : Flt) : ∀ n : Nat, n ≤ 51200 → ROk (fulR f n)
  | 0, _ => ROk.r0
  | n + 1, h => by
    rw [← ful_add]
    exact (ful_ok f n (by omega)).add _ f (by show (fulL f n).length < _; rw [ful_len]; omega) (by show (n : Int) < _; omega)
theorem own_one (f : Flt) (k : Nat) : ∀ n : Nat, (ownE (k : Int) (fulL f n)).length = if k < n then 1 else 0
  | 0 => rfl
  | n + 1 => by
    have h : fulL f (n + 1) = fulL f n ++ [fulE f n] := by
      unfold fulL
      rw [List.range_succ, List.map_append]
      rfl
    have ih := own_one f k n
    unfold ownE at ih ⊢
    rw [h, List.filter_append, List.length_append, ih]
    by_cases hk : k = n
    · subst hk
      rw [if_neg (by omega), if_pos (by omega)]
      simp [fulE]
    · have hne : ((n : Int) == (k : Int)) = false := beq_eq_false_iff_ne.mpr (by omega)
      have h0 : ([fulE f n] : List Ent).filter (fun e => e.owner == (k : Int)) = [] := by simp [fulE]; omega
      rw [h0]
      by_cases h1 : k < n
      · rw [if_pos h1, if_pos (by omega)]
        rfl
      · rw [if_neg h1, if_neg (by omega)]
        rfl
theorem ROk.drop {r : RGv} (h : ROk r) (o : Int) : ROk (dropR r o) :=
  ⟨h.s0, h.s1, Nat.le_trans (List.length_filter_le _ _) h.len, h.order.sublist List.filter_sublist, fun e he => h.since e (List.mem_filter.1 he).1⟩
section
variable {w0 w : World} {g : Nat} {r : RGv} {Q : World → (Nat → Prop) → Prop} {X : Nat → Prop}
theorem two_Drop (hQ : Framed Q) (H : Two w0 w (IsReg g r) Q X) (o : Int) (ok : ROk r) (hwf : ∀ e ∈ r.L, (Lit.int .u32 e.flt.f0).wf = true) :
    Calls Try.prog 10 #[.pointer (some ⟨g, 0, none⟩), .int .i64 o] w fun e w' => e = .returned (.int .i64 ((ownE o r.L).length : Nat)) ∧ Two w0 w' (IsReg g (dropR r o)) Q X ∧ KeepX X w w' :=
  H.own1 hQ (gf _ _) (fun S hS => reg_Drop o ok hwf hS)
theorem two_Add_full (hQ : Framed Q) (H : Two w0 w (IsReg g r) Q X) (owner : Int) (f : Flt) (hl : r.L.length = 51200) :
    Calls Try.prog 9 #[.pointer (some ⟨g, 0, none⟩), .int .i64 owner, fltV f] w fun e w' => e = .returned (.int .i64 9) ∧ Two w0 w' (IsReg g r) Q X ∧ KeepX X w w' := by
  obtain ⟨S, hS⟩ := H.get1
  exact H.still (gf _ _) hQ (reg_Add_full owner f hl hS)
end
set_option maxHeartbeats 16000000 in
set_option maxRecDepth 100000 in
theorem regfull_law (f : Flt) (hw : (Lit.int .u32 f.f0).wf = true) (more : Int) (w : World) : Calls Try.prog 3 #[fltV f, .int .i64 more] w fun e w' => e = .returned (.bool true) ∧ Below w.heap.size w w' := by
  have hu := Try.underlying24
  have HWf := Aside0.mk hw
  have hs : (decide (more < 0) = true ∨ (decide (more < 0) = false ∧ decide (more > 20) = true)) ∨ (¬ more < 0 ∧ ¬ more > 20) := by
    by_cases h1 : more < 0
    · exact .inl (.inl (decide_eq_true h1))
    · by_cases h2 : more > 20
      · exact .inl (.inr ⟨decide_eq_false h1, decide_eq_true h2⟩)
      · exact .inr ⟨h1, h2⟩
  clear hw
  unfold fltV
  rcases hs with hs | ⟨h1, h2⟩
  · rcases hs with d1 | ⟨d1, d2⟩
    all_goals
      go_enter Try.func3, Try.ntmps3
      go_wp2_with fail
      refine (alive18 _).mono ?_
      rintro e w9 ⟨rfl, hb⟩
      go_wp2_with fail
      go_ret
      exact ⟨rfl, (below_alloc (Below.refl _ _) _).trans (hb.mono (by rw [alloc_size]; omega))⟩
  have d1 := decide_eq_false h1
  have d2 := decide_eq_false h2
  have HM := Aside0.mk (show 0 ≤ more ∧ more ≤ 20 from ⟨by omega, by omega⟩)
  clear h1 h2
  go_enter Try.func3, Try.ntmps3
  go_upto_region 3 with (fail)
  obtain ⟨B, hB⟩ : ∃ B, B = w.heap.size := ⟨_, rfl⟩
  rw [← hB]
  refine wp_world (fun W => Two w W Nought Nought (fun k => k = B) ∧ W.heap[B]? = some (.cells #[.int .u32 f.f0, .int .u32 f.f1, .bool f.f2] 24 (0, 0))) ⟨(Two.start w).box nought_framed nought_framed _ hB (fun k hk => .inr hk), by rw [hB]; exact blk_new _ _⟩ ?_
  rintro W1 ⟨H, hb⟩
  have H0 := Aside0.mk H
  have HB0 := Aside0.mk hb
  clear H hb hB d1 d2
  go_wp2_with fail
  refine (two_New nought_framed H0.out).mono ?_
  rintro e w1 ⟨g, rfl, H, hbl⟩
  have H1 := Aside0.mk H
  have HB1 := Aside0.mk ((hbl.block B (blk_lt HB0.out)).trans HB0.out)
  clear H hbl H0 HB0
  go_wp2_with fail
  go_loopw [16] (fun v wr => ∃ n : Nat, n ≤ 51200 ∧ v = .int .i64 n ∧ Aside0 (Two w wr (IsReg g (fulR f n)) Nought (fun k => k = B) ∧ wr.heap[B]? = some (.cells #[.int .u32 f.f0, .int .u32 f.f1, .bool f.f2] 24 (0, 0)))) (fun v _ => 51200 + 1 - (intOf v).toNat)
  case atStart => exact ⟨0, by omega, rfl, ⟨H1.out, HB1.out⟩⟩
  case round =>
    obtain ⟨n, hn, rfl, HQ⟩ := hrel
    clear H1 HB1
    have b0 : wr.cell? ⟨B, 0, none⟩ = some (.int .u32 f.f0) := (blk_cell HQ.out.2 0).trans rfl
    have b1 : wr.cell? ⟨B, 1, none⟩ = some (.int .u32 f.f1) := (blk_cell HQ.out.2 1).trans rfl
    have b2 : wr.cell? ⟨B, 2, none⟩ = some (.bool f.f2) := (blk_cell HQ.out.2 2).trans rfl
    by_cases hlt : n < 51200
    · have d1 : decide ((n : Int) < 51200) = true := decide_eq_true (by omega)
      have HA := Aside0.mk (two_Add nought_framed HQ.out.1 (n : Int) f HWf.out (ful_ok f n hn) (by show (fulL f n).length < _; rw [ful_len]; exact hlt) (by show (n : Int) < _; omega))
      unfold fltV at HA
      go_wp2_with fail
      refine HA.out.mono ?_
      rintro e w2 ⟨rfl, H, hk⟩
      rw [ful_add] at H
      have H2 := Aside0.mk H
      have HB2 := Aside0.mk (hk.blk HQ.out.2 rfl)
      have HMs := Aside0.mk (show 51200 + 1 - (intOf (.int .i64 ((n : Int) + 1))).toNat < 51200 + 1 - (intOf (.int .i64 (n : Int))).toNat by
        show 51200 + 1 - ((n : Int) + 1).toNat < 51200 + 1 - ((n : Nat) : Int).toNat
        omega)
      clear H hk HQ HA b0 b1 b2
      go_wp2_with fail
      exact ⟨⟨n + 1, by omega, rfl, ⟨H2.out, HB2.out⟩⟩, HMs.out⟩
    · have HE := Aside0.mk (show n = 51200 by omega)
      have d1 : decide ((n : Int) < 51200) = false := decide_eq_false (by omega)
      have HF := Aside0.mk (show (fulR f n).L.length = 51200 by show (fulL f n).length = _; rw [ful_len]; omega)
      have HOk := Aside0.mk (ful_ok f n hn)
      clear b0 b1 b2
      go_wp2_with fail
      clear d1
      go_loopw [26] (fun v wr => ∃ j : Nat, Aside0 ((j : Int) ≤ more) ∧ v = .int .i64 j ∧ Aside0 (Two w wr (IsReg g (fulR f n)) Nought (fun k => k = B) ∧ wr.heap[B]? = some (.cells #[.int .u32 f.f0, .int .u32 f.f1, .bool f.f2] 24 (0, 0)))) (fun v _ => more.toNat + 1 - (intOf v).toNat)
      case atStart => exact ⟨0, ⟨HM.out.1⟩, rfl, ⟨HQ.out⟩⟩
      case round =>
        clear HQ
        obtain ⟨j, hj, rfl, HQ⟩ := hrel
        have b0 : wr.cell? ⟨B, 0, none⟩ = some (.int .u32 f.f0) := (blk_cell HQ.out.2 0).trans rfl
        have b1 : wr.cell? ⟨B, 1, none⟩ = some (.int .u32 f.f1) := (blk_cell HQ.out.2 1).trans rfl
        have b2 : wr.cell? ⟨B, 2, none⟩ = some (.bool f.f2) := (blk_cell HQ.out.2 2).trans rfl
        by_cases hlt2 : (j : Int) < more
        · have d1 : decide ((j : Int) < more) = true := decide_eq_true hlt2
          have HA := Aside0.mk (two_Add_full nought_framed HQ.out.1 0 f HF.out)
          unfold fltV at HA
          have HW := Aside0.mk (show wrap64 ((j : Int) + 1) = ((j + 1 : Nat) : Int) from wrap_succ j (by have := HM.out; omega))
          have HMs := Aside0.mk (meas_succ (L := more.toNat) (n := j) (by omega) (by have := HM.out; omega))
          have HJ := Aside0.mk (show ((j + 1 : Nat) : Int) ≤ more by omega)
          clear hlt2
          go_wp2_with fail
          refine HA.out.mono ?_
          rintro e w2 ⟨rfl, H, hk⟩
          have H2 := Aside0.mk H
          have HB2 := Aside0.mk (hk.blk HQ.out.2 rfl)
          clear H hk HQ HA b0 b1 b2
          go_wp2_with fail
          exact ⟨⟨j + 1, HJ, congrArg _ HW.out, ⟨H2.out, HB2.out⟩⟩, HMs.out⟩
        · have d1 : decide ((j : Int) < more) = false := decide_eq_false hlt2
          have HO := Aside0.mk (show (ownE 7 (fulR f n).L).length = 1 by
            have := own_one f 7 n
            rw [if_pos (by omega)] at this
            exact this)
          have HWl := Aside0.mk (show ∀ e ∈ (fulR f n).L, (Lit.int .u32 e.flt.f0).wf = true from fun e he => by
            obtain ⟨i, _, rfl⟩ := ful_mem he
            exact HWf.out)
          have HLd := Aside0.mk (show (dropR (fulR f n) 7).L.length = 51199 by
            have h1 := out_own_len (fulR f n).L 7
            have h2 := HO.out
            have h3 := HF.out
            show (outE 7 (fulR f n).L).length = _
            omega)
          clear b0 b1 b2
          go_wp2_with fail
          refine (two_Drop nought_framed HQ.out.1 7 HOk.out HWl.out).mono ?_
          rintro e w2 ⟨rfl, H, hk⟩
          rw [HO.out]
          have H2 := Aside0.mk H
          have HB2 := Aside0.mk (hk.blk HQ.out.2 rfl)
          clear H hk HQ d1 hlt2
          have b0 : w2.cell? ⟨B, 0, none⟩ = some (.int .u32 f.f0) := (blk_cell HB2.out 0).trans rfl
          have b1 : w2.cell? ⟨B, 1, none⟩ = some (.int .u32 f.f1) := (blk_cell HB2.out 1).trans rfl
          have b2 : w2.cell? ⟨B, 2, none⟩ = some (.bool f.f2) := (blk_cell HB2.out 2).trans rfl
          have HA := Aside0.mk (two_Add nought_framed H2.out 7 f HWf.out (HOk.out.drop 7) (by rw [HLd.out]; decide) (by show (n : Int) < _; omega))
          unfold fltV at HA
          have HL3 := Aside0.mk (show (addR (dropR (fulR f n) 7) 7 f).L.length = 51200 by
            show ((dropR (fulR f n) 7).L ++ [_]).length = _
            rw [List.length_append, HLd.out]
            rfl)
          go_wp2_with fail
          refine HA.out.mono ?_
          rintro e w3 ⟨rfl, H, hk⟩
          have H3 := Aside0.mk H
          have HB3 := Aside0.mk (hk.blk HB2.out rfl)
          clear H hk H2 HB2 HA b0 b1 b2
          have b0 : w3.cell? ⟨B, 0, none⟩ = some (.int .u32 f.f0) := (blk_cell HB3.out 0).trans rfl
          have b1 : w3.cell? ⟨B, 1, none⟩ = some (.int .u32 f.f1) := (blk_cell HB3.out 1).trans rfl
          have b2 : w3.cell? ⟨B, 2, none⟩ = some (.bool f.f2) := (blk_cell HB3.out 2).trans rfl
          have HA := Aside0.mk (two_Add_full nought_framed H3.out 7 f HL3.out)
          unfold fltV at HA
          go_wp2_with fail
          refine HA.out.mono ?_
          rintro e w4 ⟨rfl, H, hk⟩
          have H4 := Aside0.mk H
          clear H hk H3 HB3 HA b0 b1 b2
          go_wp2_with fail
          refine (two_Len H4.out).mono ?_
          rintro e w5 ⟨rfl, rfl⟩
          rw [HL3.out]
          go_wp2_with fail
          refine (alive18 _).mono ?_
          rintro e w9 ⟨rfl, hb⟩
          have HB := Aside0.mk hb
          clear hb
          go_wp2_with fail
          go_ret
          exact ⟨rfl, H4.out.below.trans (HB.out.mono H4.out.below.size)⟩
end Go.Proofs.Ytaninnkhdhpcgaa.P
