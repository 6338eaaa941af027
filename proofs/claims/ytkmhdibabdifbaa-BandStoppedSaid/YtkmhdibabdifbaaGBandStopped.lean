/- BandStopped's walk; no conditions. -/
import Derived.Test.YtkmhdibabdifbaaGBandUse
import Derived.Test.YtkmhdibabdifbaaGBandOpen
import Derived.Test.YtkmhdibabdifbaaPEq29
namespace Go.Proofs.Ytkmhdibabdifbaa.P
open Go.RowKit Go.Proofs.YtkmhdibabdifbaaW.PrintWords Go.Proofs.YtkmhdibabdifbaaW.PrintLast Go.Proofs.YtkmhdibabdifbaaW.PrintMore
set_option linter.unusedVariables false
set_option linter.unusedSimpArgs false

theorem allQ_take (q : BQ) (i : Nat) (p : Pk) (t : List Pk) (hp : q.rows i = p :: t) (hj : ∀ j : Nat, j < i → q.rows j = []) : ∀ N, i < N → allQ q N = p :: allQ (takeQ q i t) N := by
  have low : ∀ n, n ≤ i → allQ q n = [] ∧ allQ (takeQ q i t) n = [] := by
    intro n
    induction n with
    | zero => intro _; exact ⟨rfl, rfl⟩
    | succ n ih =>
      intro hn
      obtain ⟨h1, h2⟩ := ih (by omega)
      rw [allQ_succ, allQ_succ, h1, h2]
      refine ⟨by rw [hj n (by omega)]; rfl, ?_⟩
      show [] ++ (if (n : Int) = (i : Int) then t else q.rows n) = []
      rw [if_neg (by omega), hj n (by omega)]
      rfl
  intro N
  induction N with
  | zero => intro h; omega
  | succ N ih =>
    intro h
    rw [allQ_succ, allQ_succ]
    by_cases e : i = N
    · subst e
      obtain ⟨h1, h2⟩ := low i (Nat.le_refl _)
      rw [h1, h2, hp]
      show [] ++ p :: t = p :: ([] ++ (if (i : Int) = (i : Int) then t else q.rows i))
      rw [if_pos rfl]
      rfl
    · rw [ih (by omega)]
      show p :: allQ (takeQ q i t) N ++ q.rows N = p :: (allQ (takeQ q i t) N ++ (if (N : Int) = (i : Int) then t else q.rows N))
      rw [if_neg (by omega)]
      rfl
theorem allR_cons (o : One1) (L : List One1) (h0 : 0 ≤ o.f0) : ∀ N : Nat, (allR (o :: L) N).length = (allR L N).length + (if o.f0 < N then 1 else 0) := by
  intro N
  induction N with
  | zero => rw [if_neg (by omega)]; rfl
  | succ N ih =>
    rw [allR_succ, allR_succ, List.length_append, List.length_append, ih]
    have : (bandR (o :: L) (N : Int)).length = (bandR L (N : Int)).length + (if o.f0 = (N : Int) then 1 else 0) := by
      unfold bandR
      by_cases e : o.f0 = (N : Int)
      · simp [e]
      · simp [e]
    rw [this]
    by_cases e : o.f0 = (N : Int)
    · rw [if_pos e, if_neg (by omega), if_pos (by omega)]; omega
    · rw [if_neg e]
      by_cases e2 : o.f0 < (N : Int)
      · rw [if_pos e2, if_pos (by omega)]; omega
      · rw [if_neg e2, if_neg (by omega)]; omega
theorem allR_all (N : Nat) : ∀ L : List One1, (∀ o ∈ L, 0 ≤ o.f0 ∧ o.f0 < (N : Int)) → (allR L N).length = L.length
  | [], _ => by
    have : ∀ n, allR [] n = [] := fun n => by
      induction n with
      | zero => rfl
      | succ n ih => rw [allR_succ, ih]; rfl
    rw [this]
    rfl
  | o :: L, h => by
    have h1 := h o List.mem_cons_self
    rw [allR_cons o L h1.1, if_pos h1.2, allR_all N L (fun p hp => h p (List.mem_cons_of_mem _ hp))]
    rfl
theorem Rel.allLen {q : BQ} {r : RQv} (h : Rel q r) : (allQ q q.bands.toNat).length = r.L.length := by
  rw [h.all]
  refine allR_all _ _ (fun o ho => ?_)
  have := h.inb o ho
  have := h.b1
  omega
structure StB (w0 w : World) (g n : Nat) (q : BQ) (r : RQv) (X : Nat → Prop) : Prop where
  two : Two w0 w (QP g n q) Nought X
  rel : Rel q r
/-- Taken one behind the other, k of them, into a row v. -/
structure OutB (w0 w : World) (g n : Nat) (q : BQ) (r : RQv) (u v : Value) (L : List Pk) (k : Nat) : Prop where
  st : StB w0 w g n q r (fun x => u.ownBlock = some x ∨ v.ownBlock = some x)
  all : RowX k31 31 w u L
  out : RowX k31 31 w v (L.take k)
  ap : ∀ x, v.ownBlock = some x → u.ownBlock ≠ some x
  new : ∀ x, v.ownBlock = some x → w0.heap.size ≤ x
  rest : allQ q q.bands.toNat = L.drop k
  len : r.L.length = L.length - k
  go : q.stopped = false
attribute [local go_sem high] eqA31
set_option maxHeartbeats 16000000 in
set_option maxRecDepth 100000 in
theorem stopped_law (bands room : Int) (A : Option Addr) (c : Nat) (l : List S33) (ask : Int) (w : World) (hC : Kd.C k33 w A l.length l) (hc : l.length ≤ c) :
    Calls Try.prog 4 #[.int .i64 bands, .int .i64 room, .slice A l.length c, .int .i64 ask] w fun e w' => e = .returned (.bool true) ∧ Below w.heap.size w w' := by
  obtain ⟨b, hb, hle⟩ := few_f l
  have HF := Aside0.mk (signalboxlaw15_few.calls 500 A c l b w hC hc hb)
  have HC := Aside0.mk hC
  clear hC hb
  by_cases hgo : b = true ∧ 0 ≤ ask ∧ ask ≤ 20
  · obtain ⟨rfl, ha0, ha1⟩ := hgo
    have d1 : decide (ask < 0) = false := decide_eq_false (by omega)
    have d2 : decide (ask > 20) = false := decide_eq_false (by omega)
    have hl := hle rfl
    clear hle
    go_enter Try.func4, Try.ntmps4
    go_wp2_with fail
    refine HF.out.mono ?_
    rintro e w1 ⟨rfl, hb1⟩
    have H1 := Aside0.mk ((Two.start w).quiet nought_framed nought_framed hb1)
    clear hb1 HF
    go_wp2_with fail
    refine (two_New bands room nought_framed H1.out).mono ?_
    rintro e w2 ⟨g, rfl, H, _⟩
    have HP := Aside0.mk (show StB w w2 g 0 _ ⟨[], clampR bands, clampR room, false⟩ (fun _ => False) from ⟨H, Rel.new bands room⟩)
    clear H H1
    go_wp2_with fail
    go_loopw [35] (fun v wr => ∃ (i n : Nat) (q : BQ) (r : RQv), i ≤ l.length ∧ n ≤ i ∧ r.L.length ≤ i ∧ v = .int .i64 i ∧ Aside0 (StB w wr g n q r (fun _ => False))) (fun v _ => l.length - (intOf v).toNat)
    case atStart => exact ⟨0, 0, _, _, by omega, Nat.le_refl _, Nat.le_refl _, rfl, HP⟩
    case round =>
      clear HP
      obtain ⟨i, n, q, r, hi, hn, hr, rfl, HP⟩ := hrel
      by_cases hil : i < l.length
      · have v1 : decide ((i : Int) < (l.length : Int)) = true := decide_eq_true (by omega)
        have j1 : (i : Int) < (l.length : Int) := by omega
        obtain ⟨ad, rfl, x0, x1, x2, x3, x4, x5, x6, x7, x8⟩ := at_T33 (Kd.C_below HC.out HP.out.two.below) i (by omega) (by omega)
        obtain ⟨o, ho⟩ : ∃ o, o = rd_T33 l (i : Int) := ⟨_, rfl⟩
        rw [← ho, Int.toNat_natCast] at x0 x1 x2 x3 x4 x5 x6 x7 x8
        clear ho
        go_upto_region 7 with (fail)
        obtain ⟨E, hE⟩ : ∃ E, E = wr.heap.size := ⟨_, rfl⟩
        rw [← hE]
        refine wp_world (fun W => StB w W g n q r (fun _ => False) ∧ W.heap[E]? = some (.cells #[.int .i64 o.f0, .int .i64 o.f1, .int .i64 o.f2.f0.f0, .int .i64 o.f2.f0.f1, .int .i64 o.f2.f0.f2, .string o.f2.f0.f3, .int .i64 o.f2.f1, .int .i64 o.f2.f2, .bool o.f2.f3] 33 (0, 0))) ⟨⟨HP.out.two.quiet (qf _ _ _) nought_framed (below_alloc (Below.refl _ _) _), HP.out.rel⟩, by rw [hE]; exact blk_new _ _⟩ ?_
        rintro W1 ⟨hp, he⟩
        have HP1 := Aside0.mk hp
        have hok := hp.rel.ok (by omega)
        have e0 : W1.cell? ⟨E, 0, none⟩ = some (.int .i64 o.f0) := (blk_cell he 0).trans rfl
        clear x0 x1 x2 x3 x4 x5 x6 x7 x8 hp hE HP
        by_cases k0 : o.f0 = 0
        · have k0b : (o.f0 == 0) = true := beq_iff_eq.mpr k0
          clear k0 e0
          have e0 : W1.cell? ⟨E, 0, none⟩ = some (.int .i64 o.f0) := (blk_cell he 0).trans rfl
          have e1 : W1.cell? ⟨E, 1, none⟩ = some (.int .i64 o.f1) := (blk_cell he 1).trans rfl
          have e2 : W1.cell? ⟨E, 2, none⟩ = some (.int .i64 o.f2.f0.f0) := (blk_cell he 2).trans rfl
          have e3 : W1.cell? ⟨E, 3, none⟩ = some (.int .i64 o.f2.f0.f1) := (blk_cell he 3).trans rfl
          have e4 : W1.cell? ⟨E, 4, none⟩ = some (.int .i64 o.f2.f0.f2) := (blk_cell he 4).trans rfl
          have e5 : W1.cell? ⟨E, 5, none⟩ = some (.string o.f2.f0.f3) := (blk_cell he 5).trans rfl
          have e6 : W1.cell? ⟨E, 6, none⟩ = some (.int .i64 o.f2.f1) := (blk_cell he 6).trans rfl
          have e7 : W1.cell? ⟨E, 7, none⟩ = some (.int .i64 o.f2.f2) := (blk_cell he 7).trans rfl
          have e8 : W1.cell? ⟨E, 8, none⟩ = some (.bool o.f2.f3) := (blk_cell he 8).trans rfl
          clear he
          go_wp2_with fail
          by_cases hfull : q.many = q.room
          · refine (two_Put_full nought_framed HP1.out.two o.f1 o.f2 hfull).mono ?_
            rintro e w3 ⟨rfl, H, _⟩
            have H3 := Aside0.mk H
            clear H
            go_wp2_with fail
            exact ⟨⟨i + 1, n, q, r, by omega, by omega, by omega, congrArg (Value.int .i64) (by omega), ⟨⟨H3.out, HP1.out.rel⟩⟩⟩, by simp only [intOf]; omega⟩
          · refine (two_Put nought_framed HP1.out.two o.f1 o.f2 (by omega) hok hfull).mono ?_
            rintro e w3 ⟨rfl, H, _⟩
            have H3 := Aside0.mk H
            clear H
            go_wp2_with fail
            exact ⟨⟨i + 1, n + 1, _, _, by omega, by omega, by show (r.L ++ [mkOne _ _]).length ≤ i + 1; rw [List.length_append]; simp; omega, congrArg (Value.int .i64) (by omega), ⟨⟨H3.out, HP1.out.rel.put o.f1 o.f2⟩⟩⟩, by simp only [intOf]; omega⟩
        · have k0b : (o.f0 == 0) = false := beq_eq_false_iff_ne.mpr k0
          clear k0 he
          go_wp2_with fail
          exact ⟨⟨i + 1, n, q, r, by omega, by omega, by omega, congrArg (Value.int .i64) (by omega), HP1⟩, by simp only [intOf]; omega⟩
      · have v1 : decide ((i : Int) < (l.length : Int)) = false := decide_eq_false (by omega)
        have hok := HP.out.rel.ok (by omega)
        have hLn := HP.out.rel.allLen
        go_wp2_with fail
        refine (two_All nought_framed HP.out.two hok).mono ?_
        rintro e w4 ⟨u1, rfl, hx1, H4, _, hn1, _⟩
        obtain ⟨L, hL⟩ : ∃ L, L = allQ q q.bands.toNat := ⟨_, rfl⟩
        rw [← hL] at hx1 hLn
        have HLN0 := Aside0.mk hLn
        have hLb : L.length ≤ 400 := by omega
        clear hLn
        obtain ⟨A1, c1, rfl, hc1, hC1⟩ := hx1.reads
        have HX4 := Aside0.mk hx1
        have HS4 := Aside0.mk (show StB w w4 g n q r (fun x => (Value.slice A1 L.length c1).ownBlock = some x) from ⟨H4.protect (qf _ _ _) nought_framed (fun k hk => .inl (.inr hk)) (Below.refl _ _), HP.out.rel⟩)
        have HL := Aside0.mk hL
        clear H4 hx1 hC1 HP hL hn1
        go_wp2_with fail
        refine (two_Stop nought_framed HS4.out.two).mono ?_
        rintro e w5 ⟨rfl, H, hk⟩
        have HX5 := Aside0.mk (HX4.out.keep (w1 := w5) (fun k hkk => hk k hkk))
        have HS5 := Aside0.mk (show StB w w5 g n { q with stopped := true } { r with stopped := true } (fun x => (Value.slice A1 L.length c1).ownBlock = some x) from ⟨H, HS4.out.rel.stop true⟩)
        have HR4 := Aside0.mk HS4.out.rel
        clear H hk HX4 HS4
        go_wp2_with fail
        go_loopw [54] (fun v wr => ∃ j : Nat, (j : Int) ≤ ask ∧ v = .int .i64 j ∧ Aside0 (StB w wr g n { q with stopped := true } { r with stopped := true } (fun x => (Value.slice A1 L.length c1).ownBlock = some x)) ∧ Aside0 (RowX k31 31 wr (.slice A1 L.length c1) L)) (fun v _ => ask.toNat + 1 - (intOf v).toNat)
        case atStart => exact ⟨0, by omega, rfl, HS5, HX5⟩
        case round =>
          clear HS5 HX5
          obtain ⟨j, hj, rfl, HS, HX⟩ := hrel
          by_cases hja : (j : Int) < ask
          · have e1 : decide ((j : Int) < ask) = true := decide_eq_true hja
            go_wp2_with fail
            refine (two_Take_no nought_framed HS.out.two (.inr rfl)).mono ?_
            rintro e w6 ⟨rfl, H, hk⟩
            have HX6 := Aside0.mk (HX.out.keep (w1 := w6) (fun k hkk => hk k hkk))
            have HS6 := Aside0.mk H
            clear H hk
            unfold pkV pkZ z31 z29
            go_upto_region 15 with (fail)
            obtain ⟨D1, hD1⟩ : ∃ D, D = w6.heap.size := ⟨_, rfl⟩
            rw [← hD1]
            refine wp_world (fun W => Two w W (QP g n { q with stopped := true }) Nought (fun x => (Value.slice A1 L.length c1).ownBlock = some x) ∧ W.heap[D1]? = some (.cells #[.int .i64 0, .int .i64 0, .int .i64 0, .string ⟨#[]⟩, .int .i64 0, .int .i64 0, .bool false] 31 (0, 0)) ∧ RowX k31 31 W (.slice A1 L.length c1) L) ⟨HS6.out.quiet (qf _ _ _) nought_framed (below_alloc (Below.refl _ _) _), by rw [hD1]; exact blk_new _ _, HX6.out.turn ((Turn.refl (fun _ => False) w6).alloc _) (fun _ _ x => x)⟩ ?_
            rintro W7 ⟨H, hd1, hx⟩
            have H7 := Aside0.mk H
            have HX7 := Aside0.mk hx
            have m0 : W7.cell? ⟨D1, 0, none⟩ = some (.int .i64 0) := (blk_cell hd1 0).trans rfl
            have m1 : W7.cell? ⟨D1, 1, none⟩ = some (.int .i64 0) := (blk_cell hd1 1).trans rfl
            have m2 : W7.cell? ⟨D1, 2, none⟩ = some (.int .i64 0) := (blk_cell hd1 2).trans rfl
            have m3 : W7.cell? ⟨D1, 3, none⟩ = some (.string ⟨#[]⟩) := (blk_cell hd1 3).trans rfl
            have m4 : W7.cell? ⟨D1, 4, none⟩ = some (.int .i64 0) := (blk_cell hd1 4).trans rfl
            have m5 : W7.cell? ⟨D1, 5, none⟩ = some (.int .i64 0) := (blk_cell hd1 5).trans rfl
            have m6 : W7.cell? ⟨D1, 6, none⟩ = some (.bool false) := (blk_cell hd1 6).trans rfl
            clear H hd1 hx hD1 HS6 HX6
            go_wp2_with fail
            exact ⟨⟨j + 1, by omega, congrArg (Value.int .i64) (by omega), ⟨⟨H7.out, HS.out.rel⟩⟩, HX7⟩, by simp only [intOf]; omega⟩
          · have e1 : decide ((j : Int) < ask) = false := decide_eq_false hja
            have hok2 := HS.out.rel.ok (by show r.L.length ≤ 1000000; omega)
            go_wp2_with fail
            refine (two_All nought_framed HS.out.two hok2).mono ?_
            rintro e w6 ⟨u2, rfl, hx2, H6, hk6, _, _⟩
            have hxa := HX.out.keep (w1 := w6) (fun k hkk => hk6 k hkk)
            obtain ⟨A2, c2, rfl, hc2, hC2⟩ := hx2.reads
            obtain ⟨A3, c3, e3, hc3, hC3⟩ := hxa.reads
            have hall2 : allQ { q with stopped := true } ({ q with stopped := true } : BQ).bands.toNat = L := HL.out.symm
            rw [hall2] at hC2 hc2
            have HALL2 := Aside0.mk hall2
            have hC1 : Kd.C k31 w6 A1 L.length L := by injection e3 with e3 _ _; rw [e3]; exact hC3
            have HSm := Aside0.mk (signalboxref15_Same.calls _ A2 c2 L A1 c1 L true w6 hC2 hc2 hC1 hc1 (same_f _ (by omega)))
            have HS6 := Aside0.mk (show StB w w6 g n { q with stopped := true } { r with stopped := true } (fun x => (Value.slice A1 L.length c1).ownBlock = some x) from ⟨H6.protect (qf _ _ _) nought_framed (fun k hk => .inl (.inl hk)) (Below.refl _ _), HS.out.rel⟩)
            have HX6 := Aside0.mk hxa
            clear hx2 H6 hk6 hxa hC2 hC3 hC1 e3 hall2 HS HX
            go_wp2_with fail
            rw [HALL2.out]
            refine HSm.out.mono ?_
            rintro e w7 ⟨rfl, ⟨⟨nd, rfl⟩⟩⟩
            have HS7 := Aside0.mk (show StB w (w6.drewN nd) g n { q with stopped := true } { r with stopped := true } (fun x => (Value.slice A1 L.length c1).ownBlock = some x) from ⟨HS6.out.two.quiet (qf _ _ _) nought_framed (pw_below_drewN (Below.refl _ _) nd), HS6.out.rel⟩)
            have HX7 := Aside0.mk (HX6.out.keep (w1 := w6.drewN nd) (fun _ _ => rfl))
            clear HS6 HX6 HSm
            generalize w6.drewN nd = W7 at *
            go_wp2_with fail
            refine (two_Stopped HS7.out.two).mono ?_
            rintro e w8 ⟨rfl, rfl⟩
            go_wp2_with fail
            refine (two_Wake nought_framed HS7.out.two).mono ?_
            rintro e w9 ⟨rfl, H, hk⟩
            have HO := Aside0.mk (show OutB w w9 g n { q with stopped := false } { r with stopped := false } (.slice A1 L.length c1) (.slice none 0 0) L 0 from
              ⟨⟨H.protect (qf _ _ _) nought_framed (fun k hkk => hkk.elim .inl (fun h => by simp [Value.ownBlock] at h)) (Below.refl _ _), HR4.out.stop false⟩, HX7.out.keep (fun k hkk => hk k hkk), RowX.nil _ _ _, fun x hx => by simp [Value.ownBlock] at hx, fun x hx => by simp [Value.ownBlock] at hx, HL.out.symm, by have := HLN0.out; show r.L.length = L.length - 0; omega, rfl⟩)
            have hb2 := hok.b2
            clear H hk HS7 HX7 HR4
            go_wp2_with fail
            go_loopw [15, 83] (fun v y wr => ∃ (k n : Nat) (q : BQ) (r : RQv), k ≤ L.length ∧ n ≤ 1000 + k ∧ y = .int .i64 k ∧ Aside0 (OutB w wr g n q r (.slice A1 L.length c1) v L k)) (fun _ y _ => L.length + 1 - (intOf y).toNat)
            case atStart => exact ⟨0, n, _, _, by omega, by omega, rfl, HO⟩
            case round =>
              clear HO
              obtain ⟨k, n, q, r, hk, hn, rfl, HO⟩ := hrel
              have hst := HO.out.st.rel
              have hlen := Aside0.mk HO.out.len
              have hok3 := hst.ok (by have := hlen.out; omega)
              by_cases hkl : k < L.length
              · have f1 : decide ((k : Int) < (L.length : Int)) = true := decide_eq_true (by omega)
                have hm0 : q.many ≠ 0 := by have := hst.many; have := hlen.out; omega
                obtain ⟨kk, o2, i2, hf, hkl2, ho2, hi2, hib, hrow, hbelow, hrel2⟩ := hst.first (by have := hlen.out; omega)
                have htk := allQ_take q i2 o2.f1 _ hrow hbelow q.bands.toNat (by omega)
                rw [HO.out.rest, List.drop_eq_getElem_cons hkl] at htk
                injection htk with htk1 htk2
                have HTK := Aside0.mk (show L.take (k + 1) = L.take k ++ [o2.f1] by rw [List.take_add_one, List.getElem?_eq_getElem hkl, htk1]; rfl)
                have HTR := Aside0.mk htk2.symm
                have HR2 := Aside0.mk hrel2
                have HHR := Aside0.mk (And.intro hrow hbelow)
                have HGO := Aside0.mk HO.out.go
                have HLN := Aside0.mk (show (rtake r kk).L.length = L.length - (k + 1) by show (r.L.take kk ++ r.L.drop (kk + 1)).length = _; rw [List.length_append, List.length_take, List.length_drop]; have := hlen.out; omega)
                clear hrel2 hrow hbelow htk1 htk2 hi2 ho2 hf hst
                go_wp2_with fail
                refine (two_Take nought_framed HO.out.st.two (by omega) hok3 i2 o2.f1 _ hib HHR.out.1 HHR.out.2 hm0 HGO.out).mono ?_
                rintro e w10 ⟨rfl, H, hkx⟩
                have HX10 := Aside0.mk (HO.out.all.keep (w1 := w10) (fun x hx => hkx x (.inl hx)))
                have HY10 := Aside0.mk (HO.out.out.keep (w1 := w10) (fun x hx => hkx x (.inr hx)))
                have H10 := Aside0.mk H
                clear H hkx
                unfold pkV
                go_upto_region 25 with (fail)
                obtain ⟨D1, hD1⟩ : ∃ D, D = w10.heap.size := ⟨_, rfl⟩
                rw [← hD1]
                refine wp_world (fun W => Two w W (QP g (n + 1) (takeQ q i2 (bandR (r.L.take kk ++ r.L.drop (kk + 1)) i2))) Nought (fun x => (Value.slice A1 L.length c1).ownBlock = some x ∨ u15.ownBlock = some x) ∧ W.heap[D1]? = some (.cells #[.int .i64 o2.f1.f0.f0, .int .i64 o2.f1.f0.f1, .int .i64 o2.f1.f0.f2, .string o2.f1.f0.f3, .int .i64 o2.f1.f1, .int .i64 o2.f1.f2, .bool o2.f1.f3] 31 (0, 0)) ∧ RowX k31 31 W (.slice A1 L.length c1) L ∧ RowX k31 31 W u15 (L.take k)) ⟨H10.out.quiet (qf _ _ _) nought_framed (below_alloc (Below.refl _ _) _), by rw [hD1]; exact blk_new _ _, HX10.out.turn ((Turn.refl (fun _ => False) w10).alloc _) (fun _ _ x => x), HY10.out.turn ((Turn.refl (fun _ => False) w10).alloc _) (fun _ _ x => x)⟩ ?_
                rintro W11 ⟨H, hd1, hx, hy⟩
                have H11 := Aside0.mk H
                have HX11 := Aside0.mk hx
                have HY11 := Aside0.mk hy
                have p0 : W11.cell? ⟨D1, 0, none⟩ = some (.int .i64 o2.f1.f0.f0) := (blk_cell hd1 0).trans rfl
                have p1 : W11.cell? ⟨D1, 1, none⟩ = some (.int .i64 o2.f1.f0.f1) := (blk_cell hd1 1).trans rfl
                have p2 : W11.cell? ⟨D1, 2, none⟩ = some (.int .i64 o2.f1.f0.f2) := (blk_cell hd1 2).trans rfl
                have p3 : W11.cell? ⟨D1, 3, none⟩ = some (.string o2.f1.f0.f3) := (blk_cell hd1 3).trans rfl
                have p4 : W11.cell? ⟨D1, 4, none⟩ = some (.int .i64 o2.f1.f1) := (blk_cell hd1 4).trans rfl
                have p5 : W11.cell? ⟨D1, 5, none⟩ = some (.int .i64 o2.f1.f2) := (blk_cell hd1 5).trans rfl
                have p6 : W11.cell? ⟨D1, 6, none⟩ = some (.bool o2.f1.f3) := (blk_cell hd1 6).trans rfl
                clear H hd1 hx hy hD1 H10 HX10 HY10
                go_wp2_with (at_builtin; go_loud (refine Kd.R_append k31 (W := W11) (w0 := W11) 0 rfl (.tmp 92) (.tmp 94) 42 31 (.agg #[(.int .i64 0), (.int .i64 0), (.int .i64 0), (.string ⟨#[]⟩), (.int .i64 0), (.int .i64 0), (.bool false)]) 64 rfl Try.underlying42 info31 rfl (by decide) (by decide) u15 (L.take k) o2.f1 _ (fun x => u15.ownBlock = some x ∨ W11.heap.size ≤ x) (fun _ => False) rfl rfl (k31_mkM _ _ _ o2.f1) (fun _ hk => hk.elim) (fun x hx => .inr hx) (HY11.out.R (fun x hx => .inl hx)) (Below.refl _ _) (Nat.zero_le _) (by rw [List.length_take]; omega) ?_))
                intro v1 w12 hR hB12 hg12 hat12
                have HR12 := Aside0.mk (RowX.of_R kE hR)
                have HT12 := Aside0.mk (show Turn (fun x => u15.ownBlock = some x) W11 w12 from (Turn.refl _ W11).grown hg12 (fun x hx => .inl hx))
                have HAT := Aside0.mk hat12
                clear hR hB12 hg12 hat12
                go_wp2_with fail
                refine ⟨⟨k + 1, n + 1, _, _, by omega, by omega, congrArg (Value.int .i64) (by omega), ⟨⟨⟨H11.out.turnY (qf _ _ _) nought_framed HT12.out (fun x hx => ⟨.inr hx, HO.out.new x hx⟩) (fun x hx => ?_), HR2.out⟩, HX11.out.turn HT12.out (fun x hx hx2 => HO.out.ap x hx2 hx), by rw [HTK.out]; exact HR12.out, fun x hx => ?_, fun x hx => ?_, HTR.out, HLN.out, HGO.out⟩⟩⟩, by simp only [intOf]; omega⟩
                · rcases hx with hx | hx
                  · exact .inl (.inl hx)
                  · rcases HAT.out with h | ⟨bb, h, hl2⟩
                    · exact .inl (.inr (by rw [← h]; exact hx))
                    · rw [h] at hx
                      cases hx
                      exact .inr ⟨hl2, HR12.out.lt h⟩
                · rcases HAT.out with h | ⟨bb, h, hl2⟩
                  · exact HO.out.ap x (by rw [← h]; exact hx)
                  · rw [h] at hx
                    cases hx
                    intro hq
                    have := HX11.out.lt hq
                    omega
                · rcases HAT.out with h | ⟨bb, h, hl2⟩
                  · exact HO.out.new x (by rw [← h]; exact hx)
                  · rw [h] at hx
                    cases hx
                    exact Nat.le_trans H11.out.below.size hl2
              · have f1 : decide ((k : Int) < (L.length : Int)) = false := decide_eq_false (by omega)
                obtain rfl : k = L.length := by omega
                have hm0 : q.many = 0 := by have := hst.many; have := hlen.out; omega
                have hout := HO.out.out
                rw [List.take_length] at hout
                obtain ⟨A5, c5, hv5, hc5, hC5⟩ := hout.reads
                obtain ⟨A3, c3, e3, hc3, hC3⟩ := HO.out.all.reads
                have hC1 : Kd.C k31 wr A1 L.length L := by injection e3 with e3 _ _; rw [e3]; exact hC3
                have HSm := Aside0.mk (signalboxref15_Same.calls _ A5 c5 L A1 c1 L true wr hC5 hc5 hC1 hc1 (same_f _ (by omega)))
                have HS8 := Aside0.mk HO.out.st.two
                subst hv5
                clear hout hC5 hC3 hC1 e3 HO hst
                go_wp2_with fail
                refine HSm.out.mono ?_
                rintro e w7 ⟨rfl, ⟨⟨nd, rfl⟩⟩⟩
                go_wp2_with fail
                refine (two_Len (HS8.out.quiet (qf _ _ _) nought_framed (pw_below_drewN (Below.refl _ _) nd))).mono ?_
                rintro e w8 ⟨rfl, rfl⟩
                rw [hm0]
                go_wp2_with fail
                refine (alive15 _).mono ?_
                rintro e w9 ⟨rfl, hb9⟩
                go_wp2_with fail
                go_ret
                exact ⟨rfl, HS8.out.below.trans (((pw_below_drewN (Below.refl _ _) nd).trans (hb9.mono (Nat.le_refl _))).mono HS8.out.below.size)⟩
  · go_enter Try.func4, Try.ntmps4
    go_wp2_with fail
    refine HF.out.mono ?_
    rintro e w1 ⟨rfl, hb1⟩
    have HB1 := Aside0.mk hb1
    clear hb1
    cases b with
    | false =>
      go_wp2_with fail
      refine (alive15 _).mono ?_
      rintro e w2 ⟨rfl, hb2⟩
      go_wp2_with fail
      go_ret
      exact ⟨rfl, HB1.out.trans (hb2.mono HB1.out.size)⟩
    | true =>
      by_cases hneg : ask < 0
      · have d1 : decide (ask < 0) = true := decide_eq_true hneg
        clear hneg
        go_wp2_with fail
        refine (alive15 _).mono ?_
        rintro e w2 ⟨rfl, hb2⟩
        go_wp2_with fail
        go_ret
        exact ⟨rfl, HB1.out.trans (hb2.mono HB1.out.size)⟩
      · have d1 : decide (ask < 0) = false := decide_eq_false hneg
        have d2 : decide (ask > 20) = true := decide_eq_true (by
          by_cases h : ask > 20
          · exact h
          · exact absurd ⟨rfl, by omega, by omega⟩ hgo)
        clear hneg hgo
        go_wp2_with fail
        refine (alive15 _).mono ?_
        rintro e w2 ⟨rfl, hb2⟩
        go_wp2_with fail
        go_ret
        exact ⟨rfl, HB1.out.trans (hb2.mono HB1.out.size)⟩
end Go.Proofs.Ytkmhdibabdifbaa.P
