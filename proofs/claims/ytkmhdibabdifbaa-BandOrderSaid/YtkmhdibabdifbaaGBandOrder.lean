/- BandOrder's walk; no conditions. -/
import Derived.Test.YtkmhdibabdifbaaGBandUse
import Derived.Test.YtkmhdibabdifbaaGBandOpen
import Derived.Test.YtkmhdibabdifbaaGMat
namespace Go.Proofs.Ytkmhdibabdifbaa.P
open Go.RowKit Go.Proofs.YtkmhdibabdifbaaW.PrintWords Go.Proofs.YtkmhdibabdifbaaW.PrintLast Go.Proofs.YtkmhdibabdifbaaW.PrintMore
set_option linter.unusedVariables false
set_option linter.unusedSimpArgs false

theorem info37' : (Try.prog.info? 37).map (fun i => (i.zero, i.size, i.bytes)) = some (some (.slice none 0 0), 1, 24) := by kernel_rfl
theorem info3' : (Try.prog.info? 3).map (fun i => (i.zero, i.size, i.bytes)) = some (some (.int .i64 0), 1, 8) := by kernel_rfl
def nilK : Kd Unit := Kd.scalar (fun _ => .slice none 0 0) (fun _ => rfl)
/-- What make lays. -/
theorem mat_made {w0 W w1 : World} {v : Value} {N : Nat} (hN : 0 < N) (h : nilK.R 37 w1 W.heap.size (fun _ => True) v (List.replicate N ())) : ∃ R c, v = .slice (some ⟨R, 0, none⟩) N c ∧ N ≤ c ∧ W.heap.size ≤ R ∧ MatP R N (fun _ => []) w1 (fun k => k = R) := by
  have ho := Kd.own_of_R h
  obtain ⟨_, ho⟩ := ho
  rcases ho with ⟨_, h0⟩ | ⟨g, cap, cur, hv, hg, hb, hc, _, hsz, htk⟩
  · simp at h0
    omega
  · rw [List.length_replicate] at hv hc htk
    refine ⟨g, cap, hv, hc, hg, ⟨fun _ => .slice none 0 0, ⟨_, hb⟩, fun j hj => ?_, fun j hj => QX.nil _, fun i j k _ _ hk => by simp [Value.ownBlock] at hk, rfl, fun j k _ hk => by simp [Value.ownBlock] at hk, fun k hk => by rw [hk]; exact blk_lt hb⟩⟩
    have h1 := blk_cell hb j
    rw [h1, ← Array.getElem?_toList]
    have h2 : (cur.toList.take (N * 1))[j]? = cur.toList[j]? := List.getElem?_take_of_lt (by omega)
    rw [← h2, htk]
    simp [encs, hj]
def ordAt (bands band : Int) : Int := mn (mx band 0) (bands - 1)
structure PlO (w0 w : World) (g R N i n : Nat) (q : BQ) (r : RQv) (L : Nat → List Int) : Prop where
  two : Two w0 w (QP g n q) (MatP R N L) (fun _ => False)
  rel : Rel q r
  rows : ∀ j : Nat, j < N → q.rows j = (L j).map pkT
  nb : q.bands = (N : Int)
  room : 1 ≤ q.room
  n : n ≤ 2 * i
  len : r.L.length ≤ i
attribute [local go_sem] max2_int min2_int max_two min_two
set_option maxHeartbeats 16000000 in
set_option maxRecDepth 100000 in
theorem order_law (bands room : Int) (A : Option Addr) (c : Nat) (l : List S33) (w : World) (hC : Kd.C k33 w A l.length l) (hc : l.length ≤ c) :
    Calls Try.prog 3 #[.int .i64 bands, .int .i64 room, .slice A l.length c] w fun e w' => e = .returned (.bool true) ∧ Below w.heap.size w w' := by
  obtain ⟨b, hb, hle⟩ := few_f l
  have HF := Aside0.mk (signalboxlaw15_few.calls 500 A c l b w hC hc hb)
  have HC := Aside0.mk hC
  clear hC hb
  by_cases hgo : b = true ∧ 1 ≤ bands ∧ bands ≤ 1000
  · obtain ⟨rfl, ha0, ha1⟩ := hgo
    have d1 : decide (bands < 1) = false := decide_eq_false (by omega)
    have d2 : decide (bands > 1000) = false := decide_eq_false (by omega)
    have hl := hle rfl
    obtain ⟨N, hN⟩ : ∃ N : Nat, bands = (N : Int) := ⟨bands.toNat, by omega⟩
    have HNb := Aside0.mk hN
    have hN1 : 1 ≤ N := by omega
    have hN2 : N ≤ 1000 := by omega
    have hclr : clampR bands = (N : Int) := by
      unfold clampR mn mx
      repeat' split
      all_goals omega
    have hwb : wrap64 (bands - 1) = bands - 1 := w64_small _ (by omega) (by omega)
    have hrm := clampR_le room
    clear hle hN
    go_enter Try.func3, Try.ntmps3
    go_wp2_with fail
    refine HF.out.mono ?_
    rintro e w1 ⟨rfl, hb1⟩
    have H1 := Aside0.mk ((Two.start w).quiet nought_framed nought_framed hb1)
    clear hb1 HF
    go_wp2_with fail
    refine (two_New bands room nought_framed H1.out).mono ?_
    rintro e w2 ⟨g, rfl, H, _⟩
    rw [hclr] at H
    have H2 := Aside0.mk H
    have HR0 := Aside0.mk (show Rel ⟨fun _ => [], (N : Int), clampR room, 0, false⟩ ⟨[], (N : Int), clampR room, false⟩ by rw [← hclr]; exact Rel.new bands room)
    clear H H1 hclr
    go_wp2_with (at_make; go_loud (refine Kd.R_make nilK (w0 := w2) (W := w2) w2.heap.size 37 rfl rfl 27 _ _ rfl bands rfl rfl Try.underlying27 (.slice none 0 0) 24 info37' rfl (by decide) (by decide) () (okp := fun _ => False) (ok := fun _ => True) rfl (fun _ hk => hk.elim) trivial (by omega) (by omega) (Below.refl _ _) (Nat.le_refl _) ?_))
    intro v8 w3 hR hb3 hg3 _ _ _
    rw [show bands.toNat = N by have := HNb.out; omega] at hR
    obtain ⟨R, cR, rfl, hcR, hRn, hM⟩ := mat_made (w0 := w2) (W := w2) (by omega) hR
    have H3 := Aside0.mk ((H2.out.swap.come (qf _ _ _) (P := MatP R N (fun _ => [])) hM (fun k hk => by rw [hk]; exact hRn) hb3).swap)
    have HP := Aside0.mk (show PlO w w3 g R N 0 0 ⟨fun _ => [], (N : Int), clampR room, 0, false⟩ ⟨[], (N : Int), clampR room, false⟩ (fun _ => []) from ⟨H3.out, HR0.out, fun _ _ => rfl, rfl, hrm.1, Nat.le_refl _, Nat.le_refl _⟩)
    clear hR hb3 hg3 hM H2 H3 HR0
    go_wp2_with fail
    go_loopw [9, 36] (fun v9 v wr => ∃ (i n : Nat) (q : BQ) (r : RQv) (L : Nat → List Int), i ≤ l.length ∧ v = .int .i64 i ∧ v9 = .int .i64 q.many ∧ Aside0 (PlO w wr g R N i n q r L)) (fun _ v _ => l.length - (intOf v).toNat)
    case atStart => exact ⟨0, 0, _, _, _, by omega, rfl, rfl, HP⟩
    case round =>
      clear HP
      obtain ⟨i, n, q, r, L, hi, rfl, rfl, HP⟩ := hrel
      by_cases hil : i < l.length
      · have v1 : decide ((i : Int) < (l.length : Int)) = true := decide_eq_true (by omega)
        have j1 : (i : Int) < (l.length : Int) := by omega
        obtain ⟨ad, rfl, x0, x1, x2, x3, x4, x5, x6, x7, x8⟩ := at_T33 (Kd.C_below HC.out HP.out.two.below) i (by omega) (by omega)
        obtain ⟨o, ho⟩ : ∃ o, o = rd_T33 l (i : Int) := ⟨_, rfl⟩
        rw [← ho, Int.toNat_natCast] at x0 x1 x2 x3 x4 x5 x6 x7 x8
        clear ho
        go_upto_region 9 with (fail)
        obtain ⟨E, hE⟩ : ∃ E, E = wr.heap.size := ⟨_, rfl⟩
        rw [← hE]
        refine wp_world (fun W => PlO w W g R N i n q r L ∧ W.heap[E]? = some (.cells #[.int .i64 o.f0, .int .i64 o.f1, .int .i64 o.f2.f0.f0, .int .i64 o.f2.f0.f1, .int .i64 o.f2.f0.f2, .string o.f2.f0.f3, .int .i64 o.f2.f1, .int .i64 o.f2.f2, .bool o.f2.f3] 33 (0, 0))) ⟨⟨HP.out.two.quiet (qf _ _ _) (mat_framed _ _ _) (below_alloc (Below.refl _ _) _), HP.out.rel, HP.out.rows, HP.out.nb, HP.out.room, HP.out.n, HP.out.len⟩, by rw [hE]; exact blk_new _ _⟩ ?_
        rintro W1 ⟨hp, he⟩
        have HP1 := Aside0.mk hp
        have HE := Aside0.mk he
        have e0 : W1.cell? ⟨E, 0, none⟩ = some (.int .i64 o.f0) := (blk_cell he 0).trans rfl
        clear x0 x1 x2 x3 x4 x5 x6 x7 x8 hp he hE HP
        go_cut [42] from 43 to 141 (fun v42 wc => v42 = .int .i64 o.f0 ∧ wc = W1)
        case first =>
          go_wp2_with fail
          go_meet
          case rel => exact ⟨rfl, rfl⟩
        case rest =>
          obtain ⟨rfl, rfl⟩ := hcut
          clear e0
          apply_assumption
          go_cut [9] from 43 to 141 (fun v9 wz => ∃ (n : Nat) (q : BQ) (r : RQv) (L : Nat → List Int), v9 = .int .i64 q.many ∧ Aside0 (PlO w wz g R N (i + 1) n q r L))
          case first =>
            have hrel := HP1.out.rel
            have hlen := HP1.out.len
            have hn := HP1.out.n
            have hnb := HP1.out.nb
            have hok := HP1.out.rel.ok (by omega)
            by_cases k0 : o.f0 = 0
            · have k0b : (o.f0 == 0) = true := beq_iff_eq.mpr k0
              have e1 : wc.cell? ⟨E, 1, none⟩ = some (.int .i64 o.f1) := (blk_cell HE.out 1).trans rfl
              obtain ⟨cl, hcl⟩ : ∃ cl, cl = ordAt bands o.f1 := ⟨_, rfl⟩
              have hclb : 0 ≤ cl ∧ cl < (N : Int) := by
                have hbN := HNb.out
                rw [hcl]
                unfold ordAt mn mx
                repeat' split
                all_goals omega
              obtain ⟨k, rfl⟩ : ∃ k : Nat, cl = (k : Int) := ⟨cl.toNat, by omega⟩
              have hk : k < N := by omega
              have hkk : (k : Int) < (N : Int) := by omega
              have HCL := Aside0.mk hcl
              have hba : bandAt q (k : Int) = (k : Int) := by
                have hbN := HNb.out
                unfold bandAt mn mx
                repeat' split
                all_goals omega
              have HBA := Aside0.mk hba
              clear k0 hcl hba hclb
              go_upto_region 12 with (fail)
              rw [show (if bands - 1 < if o.f1 < 0 then 0 else o.f1 then bands - 1 else if o.f1 < 0 then 0 else o.f1) = (k : Int) from HCL.out.symm]
              generalize (if o.f1 < 0 then (0 : Int) else o.f1) = zz
              have hm1 : wrap64 (q.many + 1) = q.many + 1 := w64_small _ (by have := hok.m0; omega) (by have := hok.m1; omega)
              clear e1
              go_wp2_with fail
              refine (signalboxlaw15_packet.calls (i : Int) 0 0 0 ⟨#[]⟩ 0 (i : Int) false _ rfl).mono ?_
              rintro e w3 ⟨rfl, hb3⟩
              have H3 := Aside0.mk (HP1.out.two.quiet (qf _ _ _) (mat_framed _ _ _) hb3)
              clear hb3
              go_wp2_with fail
              by_cases hfull : q.many = q.room
              · have hmz : (q.many == 0) = false := beq_eq_false_iff_ne.mpr (by have := HP1.out.room; omega)
                refine (two_Put_full (mat_framed _ _ _) H3.out (k : Int) (pkT (i : Int)) hfull).mono ?_
                rintro e w4 ⟨rfl, H, _⟩
                have H4 := Aside0.mk H
                clear H H3 hfull
                go_wp2_with fail
                go_meet
                case rel => exact ⟨n, q, r, L, rfl, ⟨⟨H4.out, HP1.out.rel, HP1.out.rows, HP1.out.nb, HP1.out.room, by omega, by omega⟩⟩⟩
              · refine (two_Put (mat_framed _ _ _) H3.out (k : Int) (pkT (i : Int)) (by omega) hok hfull).mono ?_
                rintro e w4 ⟨rfl, H, _⟩
                have H4 := Aside0.mk H
                obtain ⟨S1, S2, hS1, ⟨vs, hM⟩, hdd, hbs, hxx, hBB⟩ := H
                have HM := Aside0.mk hM
                have HTW := Aside0.mk (And.intro hS1 (And.intro hdd (And.intro hbs (And.intro hxx hBB))))
                have ck := hM.cell k hk
                have HQ := Aside0.mk ((hM.row k hk).Q (ok := fun x => (vs k).ownBlock = some x ∨ w4.heap.size ≤ x) (fun x hx => .inl hx))
                have hlk : (L k).length ≤ 1000000 := by
                  have h1 := hok.len (k : Int)
                  rw [HP1.out.rows k hk, List.length_map] at h1
                  exact h1
                obtain ⟨vk, hvk⟩ : ∃ vk, vk = vs k := ⟨_, rfl⟩
                have HVK := Aside0.mk hvk
                rw [← hvk] at ck HQ
                clear hS1 hM hdd hbs hxx hBB H3 hvk hfull
                go_wp2_with (at_builtin; go_loud (refine Kd.Q_append (Kd.int .i64) (W := w4) (w0 := w4) 0 rfl (.tmp 63) (.tmp 65) 37 3 (.int .i64 0) 8 rfl Try.underlying37 info3' rfl (by decide) (by decide) vk (L k) (i : Int) [.int .i64 (i : Int)] (fun x => vk.ownBlock = some x ∨ w4.heap.size ≤ x) (fun _ => False) rfl rfl rfl (fun _ hk => hk.elim) (fun x hx => .inr hx) HQ.out (Below.refl _ _) (Nat.zero_le _) (by omega) ?_))
                intro v1 w5 hQ5 _ hg5 hat5
                obtain ⟨A5, c5, rfl, hc5⟩ := Kd.Q_slice hQ5
                have hT5 : Turn (fun x => vk.ownBlock = some x) w4 w5 := (Turn.refl _ w4).grown hg5 (fun x hx => .inl hx)
                have hRv : ¬ vk.ownBlock = some R := by rw [HVK.out]; exact HM.out.rR hk
                have ck5 : w5.cell? ⟨R, k, none⟩ = some vk := hT5.cell ck hRv
                obtain ⟨csR, hbR⟩ := HM.out.hb
                have z := fun j => blk_frozen (hT5.blk hbR hRv) j
                obtain ⟨A4, c4, hv4, _⟩ := (HM.out.row k hk).slice
                rw [HVK.out, hv4] at ck5
                have HST := Aside0.mk (HM.out.store hk (QX.of_Q hQ5) (by rw [← HVK.out]; exact hT5) (by rw [← HVK.out]; exact hat5))
                clear hQ5 hg5 hat5 hT5 hRv ck hbR hv4
                go_wp2_with fail
                go_meet
                case rel =>
                  have hst := HST.out
                  simp only [List.length_append, List.length_cons, List.length_nil, Nat.zero_add] at hst
                  have h2 := Two.step1 (w0 := w) (P := MatP R N L) (P' := MatP R N (fun j => if j = k then L k ++ [(i : Int)] else L j)) (Q := QP g (n + 1) (putQ q (k : Int) (pkT (i : Int)))) (X := fun _ => False) (S1 := S2) (S2 := S1) (qf _ _ _) (mat_framed _ _ _)
                    ⟨⟨vs, HM.out⟩, HTW.out.1, fun x hx hx2 => HTW.out.2.1 x hx2 hx, fun x hx => HTW.out.2.2.1 x hx.symm, HTW.out.2.2.2⟩ hst.1 hst.2 (fun x hx => hx.2) (fun x hx => IsBand.lt HTW.out.1 x hx)
                  refine ⟨n + 1, _, _, _, congrArg (Value.int .i64) hm1, ⟨⟨h2.1.swap, HP1.out.rel.put (k : Int) (pkT (i : Int)), fun j hj => ?_, HP1.out.nb, HP1.out.room, by omega, by show (r.L ++ [mkOne _ _]).length ≤ i + 1; rw [List.length_append]; simp; omega⟩⟩⟩
                  show (if (j : Int) = bandAt q (k : Int) then q.rows j ++ [pkT (i : Int)] else q.rows j) = _
                  rw [HBA.out]
                  by_cases ejk : j = k
                  · rw [if_pos (by omega), if_pos ejk, HP1.out.rows j hj, ejk, List.map_append]
                    rfl
                  · rw [if_neg (by omega), if_neg ejk, HP1.out.rows j hj]
            · have k0b : (o.f0 == 0) = false := beq_eq_false_iff_ne.mpr k0
              by_cases k1 : o.f0 = 1
              · have k1b : (o.f0 == 1) = true := beq_iff_eq.mpr k1
                clear k0 k1
                by_cases hno : q.many = 0 ∨ q.stopped = true
                · go_wp2_with fail
                  refine (two_Take_no (mat_framed _ _ _) HP1.out.two hno).mono ?_
                  rintro e w3 ⟨rfl, H, _⟩
                  have H3 := Aside0.mk H
                  clear H
                  unfold pkV pkZ z31 z29
                  go_upto_region 20 with (fail)
                  refine wp_world (fun W => PlO w W g R N (i + 1) n q r L) ⟨H3.out.quiet (qf _ _ _) (mat_framed _ _ _) (below_alloc (Below.refl _ _) _), HP1.out.rel, HP1.out.rows, HP1.out.nb, HP1.out.room, by omega, by omega⟩ ?_
                  rintro W4 hp
                  have HP4 := Aside0.mk hp
                  clear hp H3
                  by_cases hm : q.many = 0
                  · have e1 : decide (q.many > 0) = false := decide_eq_false (by omega)
                    clear hno hm
                    go_wp2_with fail
                    exact ⟨⟨i + 1, n, q, r, L, by omega, congrArg (Value.int .i64) (by omega), rfl, HP4⟩, by simp only [intOf]; omega⟩
                  · have e1 : decide (q.many > 0) = true := decide_eq_true (by have := hok.m0; omega)
                    have hs := hno.resolve_left hm
                    clear hno hm
                    go_wp2_with fail
                    refine (two_Stopped HP4.out.two).mono ?_
                    rintro e w5 ⟨rfl, rfl⟩
                    rw [hs]
                    go_wp2_with fail
                    exact ⟨⟨i + 1, n, q, r, L, by omega, congrArg (Value.int .i64) (by omega), rfl, HP4⟩, by simp only [intOf]; omega⟩
                · have hm0 : q.many ≠ 0 := fun e => hno (.inl e)
                  have hs0 : q.stopped = false := by
                    cases hq : q.stopped
                    · rfl
                    · exact absurd (.inr hq) hno
                  obtain ⟨kk, o2, i2, hf, hkl, ho2, hi2, hib, hrow, hbelow, hrel2⟩ := hrel.first (by have := hrel.many; omega)
                  have hi2N : i2 < N := by omega
                  obtain ⟨x, xs, hLx, hx1, hx2⟩ : ∃ x xs, L i2 = x :: xs ∧ pkT x = o2.f1 ∧ xs.map pkT = bandR (r.L.take kk ++ r.L.drop (kk + 1)) i2 := by
                    have h1 := HP1.out.rows i2 hi2N
                    rw [hrow] at h1
                    cases hLi : L i2 with
                    | nil => rw [hLi] at h1; cases h1
                    | cons x xs =>
                      rw [hLi] at h1
                      injection h1 with h2 h3
                      exact ⟨x, xs, rfl, h2.symm, h3.symm⟩
                  have hLb : ∀ j : Nat, j < i2 → L j = [] := by
                    intro j hj
                    have h1 := HP1.out.rows j (by omega)
                    rw [hbelow j hj] at h1
                    exact List.map_eq_nil_iff.1 h1.symm
                  have HR2 := Aside0.mk hrel2
                  have HH := Aside0.mk (And.intro hs0 (And.intro hrow (And.intro hbelow (And.intro hLx (And.intro hx1 (And.intro hx2 hLb))))))
                  have HL2 := Aside0.mk (show (rtake r kk).L.length ≤ i by show (r.L.take kk ++ r.L.drop (kk + 1)).length ≤ i; rw [List.length_append, List.length_take, List.length_drop]; omega)
                  have hm1 : wrap64 (q.many - 1) = q.many - 1 := w64_small _ (by have := hok.m0; omega) (by have := hok.m1; omega)
                  clear hno hs0 hf ho2 hrow hbelow hrel2 hi2 hLx hx1 hx2 hLb
                  go_wp2_with fail
                  refine (two_Take (mat_framed _ _ _) HP1.out.two (by omega) hok i2 o2.f1 _ hib HH.out.2.1 HH.out.2.2.1 hm0 HH.out.1).mono ?_
                  rintro e w3 ⟨rfl, H, _⟩
                  have H3 := Aside0.mk H
                  clear H
                  unfold pkV
                  go_upto_region 20 with (fail)
                  obtain ⟨D1, hD1⟩ : ∃ D, D = w3.heap.size := ⟨_, rfl⟩
                  rw [← hD1]
                  refine wp_world (fun W => Two w W (QP g (n + 1) (takeQ q i2 (bandR (r.L.take kk ++ r.L.drop (kk + 1)) i2))) (MatP R N L) (fun _ => False) ∧ W.heap[D1]? = some (.cells #[.int .i64 o2.f1.f0.f0, .int .i64 o2.f1.f0.f1, .int .i64 o2.f1.f0.f2, .string o2.f1.f0.f3, .int .i64 o2.f1.f1, .int .i64 o2.f1.f2, .bool o2.f1.f3] 31 (0, 0))) ⟨H3.out.quiet (qf _ _ _) (mat_framed _ _ _) (below_alloc (Below.refl _ _) _), by rw [hD1]; exact blk_new _ _⟩ ?_
                  rintro W4 ⟨H, hd⟩
                  obtain ⟨S1, S2, hS1, ⟨vs, hM⟩, hdd, hbs, hxx, hBB⟩ := H
                  have HM := Aside0.mk hM
                  have HTW := Aside0.mk (And.intro hS1 (And.intro hdd (And.intro hbs (And.intro hxx hBB))))
                  have m5 : W4.cell? ⟨D1, 5, none⟩ = some (.int .i64 o2.f1.f2) := (blk_cell hd 5).trans rfl
                  have htag : o2.f1.f2 = x := by rw [← HH.out.2.2.2.2.1]; rfl
                  rw [htag] at m5
                  have hrw := hM.row i2 hi2N
                  rw [HH.out.2.2.2.1] at hrw
                  obtain ⟨gq, oq, cq, hvq, hcq, ce⟩ := hrw.head
                  have ci : W4.cell? ⟨R, i2, none⟩ = some (.slice (some ⟨gq, oq, none⟩) (xs.length + 1) cq) := by rw [← hvq]; exact hM.cell i2 hi2N
                  have HRW := Aside0.mk hrw
                  have HVQ := Aside0.mk hvq
                  have hi2b : (i2 : Int) < (N : Int) := by omega
                  clear hS1 hM hdd hbs hxx hBB hd hD1 H3 htag hrw hvq
                  go_wp2_with fail
                  go_loopw [16] (fun v wr => ∃ j : Nat, j ≤ i2 ∧ v = .int .i64 j ∧ wr = W4) (fun v _ => i2 + 1 - (intOf v).toNat)
                  case atStart => exact ⟨0, by omega, rfl, rfl⟩
                  case round =>
                    obtain ⟨j, hj, rfl, rfl⟩ := hrel
                    have f1 : decide ((j : Int) < bands) = true := decide_eq_true (by have := HNb.out; omega)
                    by_cases hji : j < i2
                    · obtain ⟨A6, c6, hv6, _⟩ := (HM.out.row j (by omega)).slice
                      rw [HH.out.2.2.2.2.2.2 j hji] at hv6
                      have cj := HM.out.cell j (by omega)
                      rw [hv6] at cj
                      have f2 : (j : Int) < (N : Int) := by omega
                      clear hv6
                      go_wp2_with fail
                      exact ⟨⟨j + 1, by omega, congrArg (Value.int .i64) (by omega), trivial⟩, by simp only [intOf]; omega⟩
                    · obtain rfl : j = i2 := by omega
                      have f3 : ((j : Int) == bands) = false := beq_eq_false_iff_ne.mpr (by have := HNb.out; omega)
                      go_upto_region 26 with (fail)
                      refine start_ (n := 14) (S := fun w' => w'.cell? ⟨R, j, none⟩ = some (.slice (some ⟨gq, oq, none⟩) (xs.length + 1) cq) ∧ w'.cell? ⟨gq, oq, none⟩ = some (.int .i64 x) ∧ w'.cell? ⟨D1, 5, none⟩ = some (.int .i64 x)) (ds := []) #[false, false, false, false, false, false, false, false, false, false, false, false, false, false] (by kernel_rfl) rfl rfl ⟨ci, ce, m5⟩ (fun hHeld => ?_)
                      refine pure_ (i := 0) (N := some 105) (v := ?_) (a' := ?_) #[true, false, false, false, false, false, false, false, false, false, false, false, false, false] rfl rfl (by kernel_rfl) (fun _ _ _ h => h) (Or.inl ⟨by rfl, ?_⟩) ?_ ?_
                      rotate_left
                      · intro w'
                        go_simp
                        with_reducible rfl
                      rotate_left
                      · simp only [Act.put, List.setIfInBounds_toArray, List.set_cons_zero, List.set_cons_succ, i64_w, i32_w]
                        rfl
                      refine pure_ (i := 1) (N := some 106) (v := ?_) (a' := ?_) #[true, true, false, false, false, false, false, false, false, false, false, false, false, false] rfl rfl (by kernel_rfl) (fun _ _ _ h => h) (Or.inl ⟨by rfl, ?_⟩) ?_ ?_
                      rotate_left
                      · intro w'
                        go_simp
                        with_reducible rfl
                      rotate_left
                      · simp only [Act.put, List.setIfInBounds_toArray, List.set_cons_zero, List.set_cons_succ, i64_w, i32_w]
                        rfl
                      refine pure_ (i := 2) (N := some 107) (v := ?_) (a' := ?_) #[true, true, true, false, false, false, false, false, false, false, false, false, false, false] rfl rfl (by kernel_rfl) (fun _ _ _ h => h) (Or.inl ⟨by rfl, ?_⟩) ?_ ?_
                      rotate_left
                      · intro w'
                        go_simp
                        with_reducible rfl
                      rotate_left
                      · simp only [Act.put, List.setIfInBounds_toArray, List.set_cons_zero, List.set_cons_succ, i64_w, i32_w]
                        rfl
                      refine pure_ (i := 3) (N := some 108) (v := ?_) (a' := ?_) #[true, true, true, true, false, false, false, false, false, false, false, false, false, false] rfl rfl (by kernel_rfl) (fun _ _ _ h => h) (Or.inl ⟨by rfl, ?_⟩) ?_ ?_
                      rotate_left
                      · intro w'
                        go_simp
                        with_reducible rfl
                      rotate_left
                      · simp only [Act.put, List.setIfInBounds_toArray, List.set_cons_zero, List.set_cons_succ, i64_w, i32_w]
                        rfl
                      refine pure_ (i := 4) (N := some 109) (v := ?_) (a' := ?_) #[true, true, true, true, true, false, false, false, false, false, false, false, false, false] rfl rfl (by kernel_rfl) (fun _ _ _ h => h) (Or.inl ⟨by rfl, ?_⟩) ?_ ?_
                      rotate_left
                      · intro w'
                        go_simp
                        with_reducible rfl
                      rotate_left
                      · simp only [Act.put, List.setIfInBounds_toArray, List.set_cons_zero, List.set_cons_succ, i64_w, i32_w]
                        rfl
                      refine pure_ (i := 5) (N := some 110) (v := ?_) (a' := ?_) #[true, true, true, true, true, true, false, false, false, false, false, false, false, false] rfl rfl (by kernel_rfl) (fun _ _ _ h => h) (Or.inl ⟨by rfl, ?_⟩) ?_ ?_
                      rotate_left
                      · intro w'
                        go_simp
                        with_reducible rfl
                      rotate_left
                      · simp only [Act.put, List.setIfInBounds_toArray, List.set_cons_zero, List.set_cons_succ, i64_w, i32_w]
                        rfl
                      refine pure_ (i := 6) (N := some 111) (v := ?_) (a' := ?_) #[true, true, true, true, true, true, true, false, false, false, false, false, false, false] rfl rfl (by kernel_rfl) (fun _ _ _ h => h) (Or.inl ⟨by rfl, ?_⟩) ?_ ?_
                      rotate_left
                      · intro w'
                        go_simp
                        with_reducible rfl
                      rotate_left
                      · simp only [Act.put, List.setIfInBounds_toArray, List.set_cons_zero, List.set_cons_succ, i64_w, i32_w]
                        rfl
                      refine pure_ (i := 10) (N := some 115) (v := ?_) (a' := ?_) #[true, true, true, true, true, true, true, false, false, false, true, false, false, false] rfl rfl (by kernel_rfl) (fun _ _ _ h => h) (Or.inl ⟨by rfl, ?_⟩) ?_ ?_
                      rotate_left
                      · intro w'
                        go_simp
                        with_reducible rfl
                      rotate_left
                      · simp only [Act.put, List.setIfInBounds_toArray, List.set_cons_zero, List.set_cons_succ, i64_w, i32_w]
                        rfl
                      refine take_ (i := 7) (N := some 112) (v := ?_) (a' := ?_) #[true, true, true, true, true, true, true, true, false, false, true, false, false, false] rfl rfl (by kernel_rfl) (fun _ _ _ h => h) (Or.inl ⟨by rfl, ?_⟩) hHeld ?_ ?_
                      rotate_left
                      · rintro w' ⟨s0, s1, s2⟩
                        go_simp
                        with_reducible rfl
                      rotate_left
                      · simp only [Act.put, List.setIfInBounds_toArray, List.set_cons_zero, List.set_cons_succ, i64_w, i32_w]
                        rfl
                      refine pure_ (i := 8) (N := some 113) (v := ?_) (a' := ?_) #[true, true, true, true, true, true, true, true, true, false, true, false, false, false] rfl rfl (by kernel_rfl) (fun _ _ _ h => h) (Or.inl ⟨by rfl, ?_⟩) ?_ ?_
                      rotate_left
                      · intro w'
                        go_simp
                        with_reducible rfl
                      rotate_left
                      · simp only [Act.put, List.setIfInBounds_toArray, List.set_cons_zero, List.set_cons_succ, i64_w, i32_w]
                        rfl
                      refine take_ (i := 9) (N := some 114) (v := ?_) (a' := ?_) #[true, true, true, true, true, true, true, true, true, true, true, false, false, false] rfl rfl (by kernel_rfl) (fun _ _ _ h => h) (Or.inl ⟨by rfl, ?_⟩) hHeld ?_ ?_
                      rotate_left
                      · rintro w' ⟨s0, s1, s2⟩
                        go_simp
                        with_reducible rfl
                      rotate_left
                      · simp only [Act.put, List.setIfInBounds_toArray, List.set_cons_zero, List.set_cons_succ, i64_w, i32_w]
                        rfl
                      refine take_ (i := 11) (N := some 116) (v := ?_) (a' := ?_) #[true, true, true, true, true, true, true, true, true, true, true, true, false, false] rfl rfl (by kernel_rfl) (fun _ _ _ h => h) (Or.inl ⟨by rfl, ?_⟩) hHeld ?_ ?_
                      rotate_left
                      · rintro w' ⟨s0, s1, s2⟩
                        go_simp
                        with_reducible rfl
                      rotate_left
                      · simp only [Act.put, List.setIfInBounds_toArray, List.set_cons_zero, List.set_cons_succ, i64_w, i32_w]
                        rfl
                      refine pure_ (i := 12) (N := some 117) (v := ?_) (a' := ?_) #[true, true, true, true, true, true, true, true, true, true, true, true, true, false] rfl rfl (by kernel_rfl) (fun _ _ _ h => h) (Or.inl ⟨by rfl, ?_⟩) ?_ ?_
                      rotate_left
                      · intro w'
                        go_simp
                        with_reducible rfl
                      rotate_left
                      · simp only [Act.put, List.setIfInBounds_toArray, List.set_cons_zero, List.set_cons_succ, i64_w, i32_w]
                        rfl
                      refine pure_ (i := 13) (N := some 118) (v := ?_) (a' := ?_) #[true, true, true, true, true, true, true, true, true, true, true, true, true, true] rfl rfl (by kernel_rfl) (fun _ _ _ h => h) (Or.inl ⟨by rfl, ?_⟩) ?_ ?_
                      rotate_left
                      · intro w'
                        go_simp
                        with_reducible rfl
                      rotate_left
                      · simp only [Act.put, List.setIfInBounds_toArray, List.set_cons_zero, List.set_cons_succ, i64_w, i32_w]
                        rfl
                      refine done_ (by kernel_rfl) ?_
                      obtain ⟨it, hit, hz0⟩ := Option.map_eq_some_iff.1 info3'
                      have hsz : it.size = 1 := congrArg (fun x => x.2.1) hz0
                      have hcut := cut_from (P := Try.prog) 37 3 .i64 Try.underlying37 hit 1 hsz (some ⟨gq, oq, none⟩) (xs.length + 1) cq 1 (by decide) (by omega)
                      have hqd := Kd.Q_drop (by have := HRW.out; rw [HVQ.out] at this; exact this) (k := 1) (by simp)
                      obtain ⟨A7, hA7⟩ : ∃ A7, A7 = (if cq = 1 then some (⟨gq, oq, none⟩ : Addr) else (some (⟨gq, oq, none⟩ : Addr)).map (·.add (1 * 1))) := ⟨_, rfl⟩
                      rw [show (1 : Int).toNat = 1 from rfl, ← hA7, Nat.add_sub_cancel] at hcut
                      rw [show (Kd.int .i64).sz = 1 from rfl, ← hA7, Nat.add_sub_cancel] at hqd
                      have hown7 : (Value.slice A7 xs.length (cq - 1)).ownBlock = (vs j).ownBlock := by
                        rw [HVQ.out, hA7]
                        split <;> rfl
                      have z := HM.out.frozen
                      have HST := Aside0.mk (MatI.store (w1 := wr.drew) (xs := xs) (v1 := .slice A7 xs.length (cq - 1)) HM.out hi2N (QX.of_Q (Kd.Q_drew hqd)) ((Turn.refl _ wr).drew) (.inl hown7))
                      clear hA7 hqd hown7 hit hz0 hsz hHeld
                      go_wp2_with fail
                      go_meet
                      case rel =>
                        have hst := HST.out
                        have h2 := Two.step1 (w0 := w) (P := MatP R N L) (P' := MatP R N (fun j_1 => if j_1 = j then xs else L j_1)) (Q := QP g (n + 1) (takeQ q j (bandR (r.L.take kk ++ r.L.drop (kk + 1)) j))) (X := fun _ => False) (S1 := S2) (S2 := S1) (qf _ _ _) (mat_framed _ _ _)
                          ⟨⟨vs, HM.out⟩, HTW.out.1, fun x hx hx2 => HTW.out.2.1 x hx2 hx, fun x hx => HTW.out.2.2.1 x hx.symm, HTW.out.2.2.2⟩ hst.1 hst.2 (fun x hx => hx.2) (fun x hx => IsBand.lt HTW.out.1 x hx)
                        refine ⟨n + 1, _, _, _, congrArg (Value.int .i64) hm1, ⟨⟨h2.1.swap, HR2.out, fun j2 hj2 => ?_, HP1.out.nb, HP1.out.room, by omega, by have := HL2.out; omega⟩⟩⟩
                        show (if (j2 : Int) = (j : Int) then bandR (r.L.take kk ++ r.L.drop (kk + 1)) j else q.rows j2) = _
                        by_cases ejk : j2 = j
                        · rw [if_pos (by omega), if_pos ejk, HH.out.2.2.2.2.2.1]
                        · rw [if_neg (by omega), if_neg ejk, HP1.out.rows j2 hj2]
              · have k1b : (o.f0 == 1) = false := beq_eq_false_iff_ne.mpr k1
                by_cases k2 : o.f0 = 2
                · have k2b : (o.f0 == 2) = true := beq_iff_eq.mpr k2
                  clear k0 k1 k2
                  go_wp2_with fail
                  refine (two_Stop (mat_framed _ _ _) HP1.out.two).mono ?_
                  rintro e w3 ⟨rfl, H, _⟩
                  have H3 := Aside0.mk H
                  clear H
                  go_wp2_with fail
                  go_meet
                  case rel => exact ⟨n, { q with stopped := true }, { r with stopped := true }, L, rfl, ⟨⟨H3.out, HP1.out.rel.stop true, HP1.out.rows, HP1.out.nb, HP1.out.room, by omega, by show r.L.length ≤ i + 1; omega⟩⟩⟩
                · have k2b : (o.f0 == 2) = false := beq_eq_false_iff_ne.mpr k2
                  by_cases k3 : o.f0 = 3
                  · have k3b : (o.f0 == 3) = true := beq_iff_eq.mpr k3
                    clear k0 k1 k2 k3
                    go_wp2_with fail
                    refine (two_Wake (mat_framed _ _ _) HP1.out.two).mono ?_
                    rintro e w3 ⟨rfl, H, _⟩
                    have H3 := Aside0.mk H
                    clear H
                    go_wp2_with fail
                    go_meet
                    case rel => exact ⟨n, { q with stopped := false }, { r with stopped := false }, L, rfl, ⟨⟨H3.out, HP1.out.rel.stop false, HP1.out.rows, HP1.out.nb, HP1.out.room, by omega, by show r.L.length ≤ i + 1; omega⟩⟩⟩
                  · have k3b : (o.f0 == 3) = false := beq_eq_false_iff_ne.mpr k3
                    clear k0 k1 k2 k3
                    go_wp2_with fail
                    go_meet
                    case rel => exact ⟨n, q, r, L, rfl, ⟨⟨HP1.out.two, HP1.out.rel, HP1.out.rows, HP1.out.nb, HP1.out.room, by omega, by omega⟩⟩⟩
          case rest =>
            clear HP1 HE
            obtain ⟨n2, q2, r2, L2, rfl, HP2⟩ := hcut
            apply_assumption
            go_wp2_with fail
            refine (two_Len HP2.out.two).mono ?_
            rintro e w4 ⟨rfl, rfl⟩
            go_wp2_with fail
            exact ⟨⟨i + 1, n2, q2, r2, L2, by omega, congrArg (Value.int .i64) (by omega), rfl, HP2⟩, by simp only [intOf]; omega⟩
      · have v1 : decide ((i : Int) < (l.length : Int)) = false := decide_eq_false (by omega)
        go_wp2_with fail
        refine (alive15 _).mono ?_
        rintro e w4 ⟨rfl, hb4⟩
        go_wp2_with fail
        go_ret
        exact ⟨rfl, HP.out.two.below.trans (hb4.mono HP.out.two.below.size)⟩
  · go_enter Try.func3, Try.ntmps3
    go_wp2_with fail
    refine HF.out.mono ?_
    rintro e w1 ⟨rfl, hb1⟩
    have HB1 := Aside0.mk hb1
    clear hb1
    cases b with
    | false =>
      go_wp2_with fail
      refine (alive15 _).mono ?_
      rintro e w2 ⟨rfl, hb2⟩
      go_wp2_with fail
      go_ret
      exact ⟨rfl, HB1.out.trans (hb2.mono HB1.out.size)⟩
    | true =>
      by_cases hneg : bands < 1
      · have d1 : decide (bands < 1) = true := decide_eq_true hneg
        clear hneg hgo
        go_wp2_with fail
        refine (alive15 _).mono ?_
        rintro e w2 ⟨rfl, hb2⟩
        go_wp2_with fail
        go_ret
        exact ⟨rfl, HB1.out.trans (hb2.mono HB1.out.size)⟩
      · have d1 : decide (bands < 1) = false := decide_eq_false hneg
        have d2 : decide (bands > 1000) = true := decide_eq_true (by
          by_cases h : bands > 1000
          · exact h
          · exact absurd ⟨rfl, by omega, by omega⟩ hgo)
        clear hneg hgo
        go_wp2_with fail
        refine (alive15 _).mono ?_
        rintro e w2 ⟨rfl, hb2⟩
        go_wp2_with fail
        go_ret
        exact ⟨rfl, HB1.out.trans (hb2.mono HB1.out.size)⟩
end Go.Proofs.Ytkmhdibabdifbaa.P
