/- RingPlays's walk: whatever is put, taken and cleared is as the document says. -/
import Derived.Test.YtfdandgcnocklaaGRefRing
import Derived.Test.YtfdandgcnocklaaGRingOwn
import Derived.Deep.CutRange
namespace Go.Proofs.Ytfdandgcnocklaa.P
open Go.RowKit Go.Proofs.YtfdandgcnocklaaW.PrintWords Go.Proofs.YtfdandgcnocklaaW.PrintLast Go.Proofs.YtfdandgcnocklaaW.PrintMore
set_option linter.unusedVariables false
set_option linter.unusedSimpArgs false

/-- Calls of layer 11 that a slice reads as. -/
def ReadsOps (w : World) (A : Option Addr) (n : Nat) (xs : List (Int × Int)) : Prop :=
  xs.length = n ∧ (0 < n → ∃ ad : Addr, A = some ad ∧ ∀ j, j < n → w.cell? (ad.add (j * 2)) = some (.int .i64 (xs.getD j (0, 0)).1) ∧ w.cell? ⟨(ad.add (j * 2)).block, (ad.add (j * 2)).off + 1, none⟩ = some (.int .i64 (xs.getD j (0, 0)).2))
theorem ReadsOps.below {w w1 : World} {A : Option Addr} {n : Nat} {xs : List (Int × Int)} (h : ReadsOps w A n xs) (hb : Below w.heap.size w w1) : ReadsOps w1 A n xs := by
  refine ⟨h.1, fun hn => ?_⟩
  obtain ⟨ad, e, hc⟩ := h.2 hn
  refine ⟨ad, e, fun j hj => ?_⟩
  obtain ⟨h1, h2⟩ := hc j hj
  exact ⟨(hb.cell (World.block_lt_of_cell? w _ h1)).trans h1, (hb.cell (World.block_lt_of_cell? w _ h2)).trans h2⟩
theorem RingI.drew {w : World} {B g b room : Nat} {L : List Int} {lost : Int} (h : RingI w B g b room L lost) : RingI w.drew B g b room L lost := h.below (Below.refl _ _).drew
/-- The row and the document's, side by side. -/
structure PlI (w0 W : World) (g b n D : Nat) (v : Value) (L : List Int) (lost : Int) (M : List Int) (lostM : Int) : Prop where
  ring : RingI W w0.heap.size g b n L lost
  row : W.heap[D]? = some (.cells #[v, .int .i64 (n : Int), .int .i64 lostM] 33 (0, 0))
  rd : RdL W v M
  away : ∀ k, v.ownBlock = some k → ¬ GB g b k ∧ k ≠ D
  dne : ¬ GB g b D
  dge : w0.heap.size ≤ D
  below : Below w0.heap.size w0 W
section
variable {w0 W W' : World} {g b n D : Nat} {v v' : Value} {L L' M M' : List Int} {lost lost' lostM lostM' : Int}
theorem PlI.quiet (h : PlI w0 W g b n D v L lost M lostM) (hb : Below W.heap.size W W') : PlI w0 W' g b n D v L lost M lostM :=
  ⟨h.ring.below hb, (hb.block D (blk_lt h.row)).trans h.row, h.rd.below hb, h.away, h.dne, h.dge, h.below.trans (hb.mono h.below.size)⟩
theorem PlI.turned (h : PlI w0 W g b n D v L lost M lostM) (hR : RingI W' w0.heap.size g b n L' lost') (hb : Below w0.heap.size w0 W') (hk : Kept W W' (GB g b)) : PlI w0 W' g b n D v L' lost' M lostM :=
  ⟨hR, blk_kept h.row hk h.dne, h.rd.kept hk (fun k e => (h.away k e).1), h.away, h.dne, h.dge, hb⟩
theorem PlI.store (h : PlI w0 W g b n D v L lost M lostM) (hr : RdL W v' M') (ha : ∀ k, v'.ownBlock = some k → ¬ GB g b k ∧ k ≠ D)
    (hw : W' = ((W.setCell ⟨D, 0, none⟩ v').setCell ⟨D, 1, none⟩ (.int .i64 (n : Int))).setCell ⟨D, 2, none⟩ (.int .i64 lostM')) : PlI w0 W' g b n D v' L lost M' lostM' := by
  have hk : Kept W W' (fun k => k = D) := by
    rw [hw]
    exact (((Kept.refl W (fun k => k = D)).setCell (p := ⟨D, 0, none⟩) (.inl rfl) _).setCell (p := ⟨D, 1, none⟩) (.inl rfl) _).setCell (p := ⟨D, 2, none⟩) (.inl rfl) _
  have hg : W'.heap[D]? = some (.cells #[v', .int .i64 (n : Int), .int .i64 lostM'] 33 (0, 0)) := by
    have := blk_set (blk_set (blk_set h.row 0 v') 1 (.int .i64 (n : Int))) 2 (.int .i64 lostM')
    simp only [List.setIfInBounds_toArray, List.set_cons_zero, List.set_cons_succ] at this
    rw [hw]
    exact this
  refine ⟨h.ring.kept hk (fun e => h.dne (.inl e.symm)) (fun e => h.dne (.inr e.symm)), hg, hr.kept hk (fun k e => (ha k e).2), ha, h.dne, h.dge, ?_⟩
  rw [hw]
  exact ((h.below.setCell (p := ⟨D, 0, none⟩) h.dge _).setCell (p := ⟨D, 1, none⟩) h.dge _).setCell (p := ⟨D, 2, none⟩) h.dge _
theorem PlI.nilled (h : PlI w0 W g b n D v L lost M lostM) (hw : W' = W.setCell ⟨D, 0, none⟩ (.slice none 0 0)) : PlI w0 W' g b n D (.slice none 0 0) L lost [] lostM := by
  have hk : Kept W W' (fun k => k = D) := by
    rw [hw]
    exact (Kept.refl W (fun k => k = D)).setCell (p := ⟨D, 0, none⟩) (.inl rfl) _
  have hg : W'.heap[D]? = some (.cells #[.slice none 0 0, .int .i64 (n : Int), .int .i64 lostM] 33 (0, 0)) := by
    have := blk_set h.row 0 (.slice none 0 0)
    simp only [List.setIfInBounds_toArray, List.set_cons_zero, List.set_cons_succ] at this
    rw [hw]
    exact this
  refine ⟨h.ring.kept hk (fun e => h.dne (.inl e.symm)) (fun e => h.dne (.inr e.symm)), hg, RdL.nil _, (fun k e => by cases e), h.dne, h.dge, ?_⟩
  rw [hw]
  exact h.below.setCell (p := ⟨D, 0, none⟩) h.dge _
end
theorem blk_cells3 {W : World} {D : Nat} {v : Value} {x y : Int} {t : TypeId} (h : W.heap[D]? = some (.cells #[v, .int .i64 x, .int .i64 y] t (0, 0))) : W.cell? ⟨D, 0, none⟩ = some v ∧ W.cell? ⟨D, 1, none⟩ = some (.int .i64 x) ∧ W.cell? ⟨D, 2, none⟩ = some (.int .i64 y) := ⟨(blk_cell h 0).trans rfl, (blk_cell h 1).trans rfl, (blk_cell h 2).trans rfl⟩
theorem blk_cells2 {W : World} {D : Nat} {x y : Int} {t : TypeId} (h : W.heap[D]? = some (.cells #[.int .i64 x, .int .i64 y] t (0, 0))) : W.cell? ⟨D, 0, none⟩ = some (.int .i64 x) ∧ W.cell? ⟨D, 1, none⟩ = some (.int .i64 y) := ⟨(blk_cell h 0).trans rfl, (blk_cell h 1).trans rfl⟩

set_option maxHeartbeats 8000000 in
set_option maxRecDepth 100000 in
theorem ring_plays_law (a0 : Int) (A1 : Option Addr) (c1 : Nat) (l1 : List (Int × Int)) (w : World) (hr1 : ReadsOps w A1 l1.length l1) (hc1 : l1.length ≤ c1) :
    Calls Try.prog 4 #[.int .i64 a0, .slice A1 l1.length c1] w fun e w' => e = .returned (.bool true) ∧ Below w.heap.size w w' := by
  have HR1 := Aside0.mk hr1
  have HC1 := Aside0.mk hc1
  clear hr1 hc1
  by_cases hl : l1.length > 600
  · have t1 : decide ((l1.length : Int) > 600) = true := decide_eq_true (by omega)
    clear hl
    go_enter Try.func4, Try.ntmps4
    go_wp2_with fail
    refine (alive11 w).mono ?_
    rintro e w6 ⟨rfl, hb6⟩
    go_wp2_with fail
    go_ret
    exact ⟨rfl, hb6⟩
  · have t1 : decide ((l1.length : Int) > 600) = false := decide_eq_false (by omega)
    go_enter Try.func4, Try.ntmps4
    go_wp2_with fail
    refine (ring_NewI.calls a0 w).mono ?_
    rintro e w1 ⟨g, b, rfl, hR, hB⟩
    have HR := Aside0.mk hR
    have HB := Aside0.mk hB
    clear hR hB
    go_wp2_with fail
    refine (ref_New.calls a0 w1).mono ?_
    rintro e w2 ⟨rfl, hb2⟩
    have HR2 := Aside0.mk (HR.out.below hb2)
    have HB2 := Aside0.mk (HB.out.trans (hb2.mono HB.out.size))
    obtain ⟨n, hn⟩ : ∃ n, n = clampN a0 := ⟨_, rfl⟩
    rw [← hn] at HR2 ⊢
    have HP : Aside0 (PlI w (w2.alloc (.cells #[.slice none 0 0, .int .i64 (n : Int), .int .i64 0] 33)) g b n w2.heap.size (.slice none 0 0) [] 0 [] 0) := ⟨by
      have hl := HR2.out.lt
      exact ⟨HR2.out.below (below_alloc (Below.refl _ _) _), blk_new _ _, RdL.nil _, (fun k h => by cases h), (by rintro (e | e) <;> omega), HB2.out.size, HB2.out.alloc HB2.out.size _⟩⟩
    clear hb2 hn HR HB HR2 HB2
    go_wp2_with fail
    generalize w2.heap.size = D at *
    go_loopw [26] (fun v wr => ∃ (i : Nat) (L : List Int) (lost : Int) (vL : Value), i ≤ l1.length ∧ v = .int .i64 i ∧ Aside0 (PlI w wr g b n D vL L lost L lost)) (fun v _ => l1.length - (intOf v).toNat)
    case atStart => exact ⟨0, [], 0, _, by omega, rfl, HP⟩
    case round =>
      clear HP
      obtain ⟨i, L, lost, vL, hi, rfl, HP⟩ := hrel
      by_cases hil : i < l1.length
      · have v1 : decide ((i : Int) < (l1.length : Int)) = true := decide_eq_true (by omega)
        obtain ⟨ad, rfl, hx⟩ := (HR1.out.below HP.out.below).2 (by omega)
        obtain ⟨hx0, hx1⟩ := hx i hil
        obtain ⟨kind, hk⟩ : ∃ k, k = (l1.getD i (0, 0)).1 := ⟨_, rfl⟩
        obtain ⟨x, hxx⟩ : ∃ x, x = (l1.getD i (0, 0)).2 := ⟨_, rfl⟩
        rw [← hk] at hx0
        rw [← hxx] at hx1
        clear hk hxx hx
        have HP1 := Aside0.mk (HP.out.quiet (below_alloc (Below.refl _ _) (.cells #[.int .i64 kind, .int .i64 x] 36)))
        have HE1 : Aside0 ((wr.alloc (.cells #[.int .i64 kind, .int .i64 x] 36)).heap[wr.heap.size]? = some (.cells #[.int .i64 kind, .int .i64 x] 36 (0, 0))) := ⟨blk_new _ _⟩
        have HEn : Aside0 (¬ GB g b wr.heap.size ∧ wr.heap.size ≠ D ∧ w.heap.size ≤ wr.heap.size) := ⟨by
          have h1 := HP.out.ring.lt
          have h2 := blk_lt HP.out.row
          refine ⟨by rintro (e | e) <;> omega, by omega, HP.out.below.size⟩⟩
        clear HP
        go_upto_region 7 with (fail)
        generalize hW1 : wr.alloc (.cells #[.int .i64 kind, .int .i64 x] 36) = W1 at *
        generalize wr.heap.size = E at *
        have hk := blk_cells2 HE1.out
        obtain ⟨hk0, hk1⟩ := hk
        clear hW1
        go_cut [31] from 32 to 117 (fun v31 wc => v31 = .int .i64 kind ∧ wc = W1)
        case first =>
          go_wp2_with fail
          go_meet
          case rel => exact ⟨rfl, rfl⟩
        case rest =>
          obtain ⟨rfl, rfl⟩ := hcut
          apply_assumption
          go_cut [] from 32 to 117 (fun wz => ∃ (vL : Value) (L : List Int) (lost : Int), Aside0 (PlI w wz g b n D vL L lost L lost))
          case first =>
            obtain ⟨d0, d1, d2⟩ := blk_cells3 HP1.out.row
            have hroom := HP1.out.ring.roomy
            by_cases k0 : kind = 0
            · have e0 : (kind == 0) = true := beq_iff_eq.2 k0
              clear k0
              by_cases hf : L.length = n
              · have u1 : decide (L.length < n) = false := decide_eq_false (by omega)
                have HFu := Aside0.mk hf
                clear hf
                go_upto_region 9 with (fail)
                go_wp2_with fail
                refine (ref_Put.calls n lost x HP1.out.rd (by omega)).mono ?_
                rintro e w3 ⟨v', rfl, hrd, hown, hb3⟩
                have hf := HFu.out
                rw [if_pos hf] at hrd
                rw [if_pos hf, decide_eq_false (by simpa using hf)]
                have HP3 := Aside0.mk (HP1.out.quiet hb3)
                have HE3 := Aside0.mk ((hb3.block E (blk_lt HE1.out)).trans HE1.out)
                have hlt1 := HP1.out.ring.lt
                have hlt2 := blk_lt HP1.out.row
                have hsz3 := hb3.size
                have HA3 : Aside0 (∀ k, v'.ownBlock = some k → ¬ GB g b k ∧ k ≠ D) := ⟨fun k hk => by
                  rcases hown k hk with h | h
                  · exact HP1.out.away k h
                  · exact ⟨by rintro (e | e) <;> omega, by omega⟩⟩
                have HRD3 := Aside0.mk hrd
                obtain ⟨A3, M3, c3, hv3⟩ : ∃ A M c, v' = .slice A M c := by obtain ⟨A, c, h, _⟩ := hrd; exact ⟨_, _, _, h⟩
                subst hv3
                clear hown hb3 hrd d0 d1 d2 hk0 hk1 hlt1 hlt2 hsz3 hf
                go_upto_region 10 with (fail)
                have HP4 := Aside0.mk (HP3.out.quiet (below_alloc (Below.refl _ _) (.cells #[.slice A3 M3 c3, .int .i64 (n : Int), .int .i64 (wrap64 (lost + 1))] 33)))
                have HRD4 := Aside0.mk (HRD3.out.below (below_alloc (Below.refl _ _) (.cells #[.slice A3 M3 c3, .int .i64 (n : Int), .int .i64 (wrap64 (lost + 1))] 33)))
                have HE4 := Aside0.mk ((Below.heap_alloc w3 (.cells #[.slice A3 M3 c3, .int .i64 (n : Int), .int .i64 (wrap64 (lost + 1))] 33) E (blk_lt HE3.out)).trans HE3.out)
                have hF4 := blk_new w3 (.cells #[.slice A3 M3 c3, .int .i64 (n : Int), .int .i64 (wrap64 (lost + 1))] 33)
                generalize w3.alloc (.cells #[.slice A3 M3 c3, .int .i64 (n : Int), .int .i64 (wrap64 (lost + 1))] 33) = W4 at *
                generalize w3.heap.size = F at *
                obtain ⟨d0, d1, d2⟩ := blk_cells3 HP4.out.row
                obtain ⟨f0, f1, f2⟩ := blk_cells3 hF4
                have z0 := fun j => blk_frozen HP4.out.row j
                clear HP3 HE3 HRD3 hF4
                go_upto_region 11 with (fail)
                generalize hW5 : ((W4.setCell ⟨D, 0, none⟩ (.slice A3 M3 c3)).setCell ⟨D, 1, none⟩ (.int .i64 (n : Int))).setCell ⟨D, 2, none⟩ (.int .i64 (wrap64 (lost + 1))) = W5 at *
                have HP5 := Aside0.mk (HP4.out.store HRD4.out HA3.out hW5.symm)
                have hE5 : W5.heap[E]? = some (.cells #[.int .i64 kind, .int .i64 x] 36 (0, 0)) := by
                  rw [← hW5]
                  exact blk_far (p := ⟨D, 2, none⟩) (blk_far (p := ⟨D, 1, none⟩) (blk_far (p := ⟨D, 0, none⟩) HE4.out HEn.out.2.1 _) HEn.out.2.1 _) HEn.out.2.1 _
                obtain ⟨q0, q1⟩ := blk_cells2 hE5
                clear hE5 hW5 d0 d1 d2 f0 f1 f2 z0 HP4 HRD4 HE4 HA3
                go_wp2_with fail
                refine (ring_PutI.calls (w0 := w) x HP5.out.ring HP5.out.below).mono ?_
                rintro e w6 ⟨rfl, hR, hB, hk⟩
                have hf := HFu.out
                rw [if_neg (by omega), if_neg (by omega)] at hR
                clear hf
                have HP6 := Aside0.mk (HP5.out.turned hR hB hk)
                clear hR hB hk HP5 q0 q1
                go_wp2_with fail
                go_meet
                case rel => exact ⟨_, _, _, HP6⟩
              · have u1 : decide (L.length < n) = true := decide_eq_true (by omega)
                have HFu := Aside0.mk hf
                clear hf
                go_upto_region 9 with (fail)
                go_wp2_with fail
                refine (ref_Put.calls n lost x HP1.out.rd (by omega)).mono ?_
                rintro e w3 ⟨v', rfl, hrd, hown, hb3⟩
                have hf := HFu.out
                rw [if_neg hf] at hrd
                rw [if_neg hf, decide_eq_true hf]
                have HP3 := Aside0.mk (HP1.out.quiet hb3)
                have HE3 := Aside0.mk ((hb3.block E (blk_lt HE1.out)).trans HE1.out)
                have hlt1 := HP1.out.ring.lt
                have hlt2 := blk_lt HP1.out.row
                have hsz3 := hb3.size
                have HA3 : Aside0 (∀ k, v'.ownBlock = some k → ¬ GB g b k ∧ k ≠ D) := ⟨fun k hk => by
                  rcases hown k hk with h | h
                  · exact HP1.out.away k h
                  · exact ⟨by rintro (e | e) <;> omega, by omega⟩⟩
                have HRD3 := Aside0.mk hrd
                obtain ⟨A3, M3, c3, hv3⟩ : ∃ A M c, v' = .slice A M c := by obtain ⟨A, c, h, _⟩ := hrd; exact ⟨_, _, _, h⟩
                subst hv3
                clear hown hb3 hrd d0 d1 d2 hk0 hk1 hlt1 hlt2 hsz3 hf
                go_upto_region 10 with (fail)
                have HP4 := Aside0.mk (HP3.out.quiet (below_alloc (Below.refl _ _) (.cells #[.slice A3 M3 c3, .int .i64 (n : Int), .int .i64 (lost)] 33)))
                have HRD4 := Aside0.mk (HRD3.out.below (below_alloc (Below.refl _ _) (.cells #[.slice A3 M3 c3, .int .i64 (n : Int), .int .i64 (lost)] 33)))
                have HE4 := Aside0.mk ((Below.heap_alloc w3 (.cells #[.slice A3 M3 c3, .int .i64 (n : Int), .int .i64 (lost)] 33) E (blk_lt HE3.out)).trans HE3.out)
                have hF4 := blk_new w3 (.cells #[.slice A3 M3 c3, .int .i64 (n : Int), .int .i64 (lost)] 33)
                generalize w3.alloc (.cells #[.slice A3 M3 c3, .int .i64 (n : Int), .int .i64 (lost)] 33) = W4 at *
                generalize w3.heap.size = F at *
                obtain ⟨d0, d1, d2⟩ := blk_cells3 HP4.out.row
                obtain ⟨f0, f1, f2⟩ := blk_cells3 hF4
                have z0 := fun j => blk_frozen HP4.out.row j
                clear HP3 HE3 HRD3 hF4
                go_upto_region 11 with (fail)
                generalize hW5 : ((W4.setCell ⟨D, 0, none⟩ (.slice A3 M3 c3)).setCell ⟨D, 1, none⟩ (.int .i64 (n : Int))).setCell ⟨D, 2, none⟩ (.int .i64 (lost)) = W5 at *
                have HP5 := Aside0.mk (HP4.out.store HRD4.out HA3.out hW5.symm)
                have hE5 : W5.heap[E]? = some (.cells #[.int .i64 kind, .int .i64 x] 36 (0, 0)) := by
                  rw [← hW5]
                  exact blk_far (p := ⟨D, 2, none⟩) (blk_far (p := ⟨D, 1, none⟩) (blk_far (p := ⟨D, 0, none⟩) HE4.out HEn.out.2.1 _) HEn.out.2.1 _) HEn.out.2.1 _
                obtain ⟨q0, q1⟩ := blk_cells2 hE5
                clear hE5 hW5 d0 d1 d2 f0 f1 f2 z0 HP4 HRD4 HE4 HA3
                go_wp2_with fail
                refine (ring_PutI.calls (w0 := w) x HP5.out.ring HP5.out.below).mono ?_
                rintro e w6 ⟨rfl, hR, hB, hk⟩
                have hf := HFu.out
                rw [if_pos (by omega), if_pos (by omega)] at hR
                clear hf
                have HP6 := Aside0.mk (HP5.out.turned hR hB hk)
                clear hR hB hk HP5 q0 q1
                go_wp2_with fail
                go_meet
                case rel => exact ⟨_, _, _, HP6⟩
            · have e0 : (kind == 0) = false := beq_eq_false_iff_ne.2 k0
              by_cases k12 : kind = 1 ∨ kind = 2
              · have t3 : (kind == 3) = false := beq_eq_false_iff_ne.2 (by omega)
                rcases k12 with k12 | k12
                · cases L with
                  | nil =>
                    have e1 : (kind == 1) = true := by subst k12; rfl
                    have e2 : (kind == 2) = false := by subst k12; rfl
                    clear k12 k0
                    go_upto_region 15 with (fail)
                    go_wp2_with fail
                    refine (ref_Take.calls n lost HP1.out.rd (by omega)).mono ?_
                    rintro e w3 ⟨v', rfl, hrd, hown, hb3⟩
                    have HP3 := Aside0.mk (HP1.out.quiet hb3)
                    have HE3 := Aside0.mk ((hb3.block E (blk_lt HE1.out)).trans HE1.out)
                    have HA3 : Aside0 (∀ k, v'.ownBlock = some k → ¬ GB g b k ∧ k ≠ D) := ⟨fun k hk => HP1.out.away k (hown k hk)⟩
                    have HRD3 : Aside0 (RdL w3 v' []) := ⟨hrd⟩
                    obtain ⟨A3, M3, c3, hv3⟩ : ∃ A M c, v' = .slice A M c := by obtain ⟨A, c, h, _⟩ := hrd; exact ⟨_, _, _, h⟩
                    subst hv3
                    clear hown hb3 hrd d0 d1 d2 hk0 hk1
                    rw [show decide (([] : List Int).length ≠ 0) = false from rfl, show ([] : List Int).getD 0 0 = 0 from rfl]
                    go_upto_region 16 with (fail)
                    have HP4 := Aside0.mk (HP3.out.quiet (below_alloc (Below.refl _ _) (.cells #[.slice A3 M3 c3, .int .i64 (n : Int), .int .i64 lost] 33)))
                    have HRD4 := Aside0.mk (HRD3.out.below (below_alloc (Below.refl _ _) (.cells #[.slice A3 M3 c3, .int .i64 (n : Int), .int .i64 lost] 33)))
                    have HE4 := Aside0.mk ((Below.heap_alloc w3 (.cells #[.slice A3 M3 c3, .int .i64 (n : Int), .int .i64 lost] 33) E (blk_lt HE3.out)).trans HE3.out)
                    have HF4 := Aside0.mk (blk_new w3 (.cells #[.slice A3 M3 c3, .int .i64 (n : Int), .int .i64 lost] 33))
                    generalize w3.alloc (.cells #[.slice A3 M3 c3, .int .i64 (n : Int), .int .i64 lost] 33) = W4 at *
                    generalize w3.heap.size = F at *
                    clear HP3 HE3 HRD3
                    go_wp2_with fail
                    refine (ring_PeekI.calls HP4.out.ring).mono ?_
                    rintro e w5 ⟨rfl, hd5⟩
                    have hb5 := hd5.below
                    have HP5 := Aside0.mk (HP4.out.quiet hb5)
                    have HRD5 := Aside0.mk (HRD4.out.below hb5)
                    have hE5 := (hb5.block E (blk_lt HE4.out)).trans HE4.out
                    have hF5 := (hb5.block F (blk_lt HF4.out)).trans HF4.out
                    obtain ⟨q0, q1⟩ := blk_cells2 hE5
                    obtain ⟨f0, f1, f2⟩ := blk_cells3 hF5
                    obtain ⟨d0, d1, d2⟩ := blk_cells3 HP5.out.row
                    have z0 := fun j => blk_frozen HP5.out.row j
                    clear hd5 hb5 hE5 hF5 HP4 HRD4 HE4 HF4
                    rw [show (if ([] : List Int).length = 0 then (6 : Int) else 0) = 6 from rfl, show ([] : List Int).getD 0 0 = 0 from rfl]
                    go_upto_region 19 with (fail)
                    generalize hW5 : ((w5.setCell ⟨D, 0, none⟩ (.slice A3 M3 c3)).setCell ⟨D, 1, none⟩ (.int .i64 (n : Int))).setCell ⟨D, 2, none⟩ (.int .i64 lost) = W5 at *
                    have HP6 := Aside0.mk (HP5.out.store HRD5.out HA3.out hW5.symm)
                    clear hW5 q0 q1 f0 f1 f2 d0 d1 d2 z0 HP5 HRD5 HA3
                    go_wp2_with fail
                    refine (ring_TakeI.calls (w0 := w) HP6.out.ring HP6.out.below).mono ?_
                    rintro e w7 ⟨rfl, hR, hB, hk⟩
                    have HP7 := Aside0.mk (HP6.out.turned hR hB hk)
                    clear hR hB hk HP6
                    rw [show (if ([] : List Int).length = 0 then (6 : Int) else 0) = 6 from rfl, show ([] : List Int).getD 0 0 = 0 from rfl]
                    go_wp2_with fail
                    go_meet
                    case rel => exact ⟨_, _, _, HP7⟩
                  | cons y M =>
                    have e1 : (kind == 1) = true := by subst k12; rfl
                    have e2 : (kind == 2) = false := by subst k12; rfl
                    clear k12 k0
                    go_upto_region 15 with (fail)
                    go_wp2_with fail
                    refine (ref_Take.calls n lost HP1.out.rd (by omega)).mono ?_
                    rintro e w3 ⟨v', rfl, hrd, hown, hb3⟩
                    have HP3 := Aside0.mk (HP1.out.quiet hb3)
                    have HE3 := Aside0.mk ((hb3.block E (blk_lt HE1.out)).trans HE1.out)
                    have HA3 : Aside0 (∀ k, v'.ownBlock = some k → ¬ GB g b k ∧ k ≠ D) := ⟨fun k hk => HP1.out.away k (hown k hk)⟩
                    have HRD3 : Aside0 (RdL w3 v' M) := ⟨hrd⟩
                    obtain ⟨A3, M3, c3, hv3⟩ : ∃ A M c, v' = .slice A M c := by obtain ⟨A, c, h, _⟩ := hrd; exact ⟨_, _, _, h⟩
                    subst hv3
                    clear hown hb3 hrd d0 d1 d2 hk0 hk1
                    rw [show decide (((y :: M) : List Int).length ≠ 0) = true from by simp, show ((y :: M) : List Int).getD 0 0 = y from rfl]
                    go_upto_region 16 with (fail)
                    have HP4 := Aside0.mk (HP3.out.quiet (below_alloc (Below.refl _ _) (.cells #[.slice A3 M3 c3, .int .i64 (n : Int), .int .i64 lost] 33)))
                    have HRD4 := Aside0.mk (HRD3.out.below (below_alloc (Below.refl _ _) (.cells #[.slice A3 M3 c3, .int .i64 (n : Int), .int .i64 lost] 33)))
                    have HE4 := Aside0.mk ((Below.heap_alloc w3 (.cells #[.slice A3 M3 c3, .int .i64 (n : Int), .int .i64 lost] 33) E (blk_lt HE3.out)).trans HE3.out)
                    have HF4 := Aside0.mk (blk_new w3 (.cells #[.slice A3 M3 c3, .int .i64 (n : Int), .int .i64 lost] 33))
                    generalize w3.alloc (.cells #[.slice A3 M3 c3, .int .i64 (n : Int), .int .i64 lost] 33) = W4 at *
                    generalize w3.heap.size = F at *
                    clear HP3 HE3 HRD3
                    go_wp2_with fail
                    refine (ring_PeekI.calls HP4.out.ring).mono ?_
                    rintro e w5 ⟨rfl, hd5⟩
                    have hb5 := hd5.below
                    have HP5 := Aside0.mk (HP4.out.quiet hb5)
                    have HRD5 := Aside0.mk (HRD4.out.below hb5)
                    have hE5 := (hb5.block E (blk_lt HE4.out)).trans HE4.out
                    have hF5 := (hb5.block F (blk_lt HF4.out)).trans HF4.out
                    obtain ⟨q0, q1⟩ := blk_cells2 hE5
                    obtain ⟨f0, f1, f2⟩ := blk_cells3 hF5
                    obtain ⟨d0, d1, d2⟩ := blk_cells3 HP5.out.row
                    have z0 := fun j => blk_frozen HP5.out.row j
                    clear hd5 hb5 hE5 hF5 HP4 HRD4 HE4 HF4
                    rw [show (if ((y :: M) : List Int).length = 0 then (6 : Int) else 0) = 0 from by simp, show ((y :: M) : List Int).getD 0 0 = y from rfl]
                    go_upto_region 19 with (fail)
                    generalize hW5 : ((w5.setCell ⟨D, 0, none⟩ (.slice A3 M3 c3)).setCell ⟨D, 1, none⟩ (.int .i64 (n : Int))).setCell ⟨D, 2, none⟩ (.int .i64 lost) = W5 at *
                    have HP6 := Aside0.mk (HP5.out.store HRD5.out HA3.out hW5.symm)
                    clear hW5 q0 q1 f0 f1 f2 d0 d1 d2 z0 HP5 HRD5 HA3
                    go_wp2_with fail
                    refine (ring_TakeI.calls (w0 := w) HP6.out.ring HP6.out.below).mono ?_
                    rintro e w7 ⟨rfl, hR, hB, hk⟩
                    have HP7 := Aside0.mk (HP6.out.turned hR hB hk)
                    clear hR hB hk HP6
                    rw [show (if ((y :: M) : List Int).length = 0 then (6 : Int) else 0) = 0 from by simp, show ((y :: M) : List Int).getD 0 0 = y from rfl]
                    go_wp2_with fail
                    go_meet
                    case rel => exact ⟨_, _, _, HP7⟩
                · cases L with
                  | nil =>
                    have e1 : (kind == 1) = false := by subst k12; rfl
                    have e2 : (kind == 2) = true := by subst k12; rfl
                    clear k12 k0
                    go_upto_region 15 with (fail)
                    go_wp2_with fail
                    refine (ref_Take.calls n lost HP1.out.rd (by omega)).mono ?_
                    rintro e w3 ⟨v', rfl, hrd, hown, hb3⟩
                    have HP3 := Aside0.mk (HP1.out.quiet hb3)
                    have HE3 := Aside0.mk ((hb3.block E (blk_lt HE1.out)).trans HE1.out)
                    have HA3 : Aside0 (∀ k, v'.ownBlock = some k → ¬ GB g b k ∧ k ≠ D) := ⟨fun k hk => HP1.out.away k (hown k hk)⟩
                    have HRD3 : Aside0 (RdL w3 v' []) := ⟨hrd⟩
                    obtain ⟨A3, M3, c3, hv3⟩ : ∃ A M c, v' = .slice A M c := by obtain ⟨A, c, h, _⟩ := hrd; exact ⟨_, _, _, h⟩
                    subst hv3
                    clear hown hb3 hrd d0 d1 d2 hk0 hk1
                    rw [show decide (([] : List Int).length ≠ 0) = false from rfl, show ([] : List Int).getD 0 0 = 0 from rfl]
                    go_upto_region 16 with (fail)
                    have HP4 := Aside0.mk (HP3.out.quiet (below_alloc (Below.refl _ _) (.cells #[.slice A3 M3 c3, .int .i64 (n : Int), .int .i64 lost] 33)))
                    have HRD4 := Aside0.mk (HRD3.out.below (below_alloc (Below.refl _ _) (.cells #[.slice A3 M3 c3, .int .i64 (n : Int), .int .i64 lost] 33)))
                    have HE4 := Aside0.mk ((Below.heap_alloc w3 (.cells #[.slice A3 M3 c3, .int .i64 (n : Int), .int .i64 lost] 33) E (blk_lt HE3.out)).trans HE3.out)
                    have HF4 := Aside0.mk (blk_new w3 (.cells #[.slice A3 M3 c3, .int .i64 (n : Int), .int .i64 lost] 33))
                    generalize w3.alloc (.cells #[.slice A3 M3 c3, .int .i64 (n : Int), .int .i64 lost] 33) = W4 at *
                    generalize w3.heap.size = F at *
                    clear HP3 HE3 HRD3
                    go_wp2_with fail
                    refine (ring_PeekI.calls HP4.out.ring).mono ?_
                    rintro e w5 ⟨rfl, hd5⟩
                    have hb5 := hd5.below
                    have HP5 := Aside0.mk (HP4.out.quiet hb5)
                    have HRD5 := Aside0.mk (HRD4.out.below hb5)
                    have hE5 := (hb5.block E (blk_lt HE4.out)).trans HE4.out
                    have hF5 := (hb5.block F (blk_lt HF4.out)).trans HF4.out
                    obtain ⟨q0, q1⟩ := blk_cells2 hE5
                    obtain ⟨f0, f1, f2⟩ := blk_cells3 hF5
                    obtain ⟨d0, d1, d2⟩ := blk_cells3 HP5.out.row
                    have z0 := fun j => blk_frozen HP5.out.row j
                    clear hd5 hb5 hE5 hF5 HP4 HRD4 HE4 HF4
                    rw [show (if ([] : List Int).length = 0 then (6 : Int) else 0) = 6 from rfl, show ([] : List Int).getD 0 0 = 0 from rfl]
                    go_wp2_with fail
                    go_meet
                    case rel => exact ⟨_, _, _, HP5⟩
                  | cons y M =>
                    have e1 : (kind == 1) = false := by subst k12; rfl
                    have e2 : (kind == 2) = true := by subst k12; rfl
                    clear k12 k0
                    go_upto_region 15 with (fail)
                    go_wp2_with fail
                    refine (ref_Take.calls n lost HP1.out.rd (by omega)).mono ?_
                    rintro e w3 ⟨v', rfl, hrd, hown, hb3⟩
                    have HP3 := Aside0.mk (HP1.out.quiet hb3)
                    have HE3 := Aside0.mk ((hb3.block E (blk_lt HE1.out)).trans HE1.out)
                    have HA3 : Aside0 (∀ k, v'.ownBlock = some k → ¬ GB g b k ∧ k ≠ D) := ⟨fun k hk => HP1.out.away k (hown k hk)⟩
                    have HRD3 : Aside0 (RdL w3 v' M) := ⟨hrd⟩
                    obtain ⟨A3, M3, c3, hv3⟩ : ∃ A M c, v' = .slice A M c := by obtain ⟨A, c, h, _⟩ := hrd; exact ⟨_, _, _, h⟩
                    subst hv3
                    clear hown hb3 hrd d0 d1 d2 hk0 hk1
                    rw [show decide (((y :: M) : List Int).length ≠ 0) = true from by simp, show ((y :: M) : List Int).getD 0 0 = y from rfl]
                    go_upto_region 16 with (fail)
                    have HP4 := Aside0.mk (HP3.out.quiet (below_alloc (Below.refl _ _) (.cells #[.slice A3 M3 c3, .int .i64 (n : Int), .int .i64 lost] 33)))
                    have HRD4 := Aside0.mk (HRD3.out.below (below_alloc (Below.refl _ _) (.cells #[.slice A3 M3 c3, .int .i64 (n : Int), .int .i64 lost] 33)))
                    have HE4 := Aside0.mk ((Below.heap_alloc w3 (.cells #[.slice A3 M3 c3, .int .i64 (n : Int), .int .i64 lost] 33) E (blk_lt HE3.out)).trans HE3.out)
                    have HF4 := Aside0.mk (blk_new w3 (.cells #[.slice A3 M3 c3, .int .i64 (n : Int), .int .i64 lost] 33))
                    generalize w3.alloc (.cells #[.slice A3 M3 c3, .int .i64 (n : Int), .int .i64 lost] 33) = W4 at *
                    generalize w3.heap.size = F at *
                    clear HP3 HE3 HRD3
                    go_wp2_with fail
                    refine (ring_PeekI.calls HP4.out.ring).mono ?_
                    rintro e w5 ⟨rfl, hd5⟩
                    have hb5 := hd5.below
                    have HP5 := Aside0.mk (HP4.out.quiet hb5)
                    have HRD5 := Aside0.mk (HRD4.out.below hb5)
                    have hE5 := (hb5.block E (blk_lt HE4.out)).trans HE4.out
                    have hF5 := (hb5.block F (blk_lt HF4.out)).trans HF4.out
                    obtain ⟨q0, q1⟩ := blk_cells2 hE5
                    obtain ⟨f0, f1, f2⟩ := blk_cells3 hF5
                    obtain ⟨d0, d1, d2⟩ := blk_cells3 HP5.out.row
                    have z0 := fun j => blk_frozen HP5.out.row j
                    clear hd5 hb5 hE5 hF5 HP4 HRD4 HE4 HF4
                    rw [show (if ((y :: M) : List Int).length = 0 then (6 : Int) else 0) = 0 from by simp, show ((y :: M) : List Int).getD 0 0 = y from rfl]
                    go_wp2_with fail
                    go_meet
                    case rel => exact ⟨_, _, _, HP5⟩
              · have e1 : (kind == 1) = false := beq_eq_false_iff_ne.2 (by omega)
                have e2 : (kind == 2) = false := beq_eq_false_iff_ne.2 (by omega)
                clear k12 k0
                by_cases k3 : kind = 3
                · have e3 : (kind == 3) = true := beq_iff_eq.2 k3
                  clear k3
                  have HPd := Aside0.mk (HP1.out.quiet (Below.refl _ _).drew)
                  obtain ⟨AL, cL, rfl, hrL, hcL⟩ := HP1.out.rd
                  clear hrL hk0 hk1
                  go_upto_region 23 with (fail)
                  refine start_ (n := 6) (S := fun w' => w'.cell? ⟨D, 0, none⟩ = some (.slice AL L.length cL)) (ds := []) #[false, false, false, false, false, false] (by kernel_rfl) rfl rfl (d0) (fun hHeld => ?_)
                  refine pure_ (i := 0) (N := some 90) (v := ?_) (a' := ?_) #[true, false, false, false, false, false] rfl rfl (by kernel_rfl) (fun _ _ _ h => h) (Or.inl ⟨by rfl, ?_⟩) ?_ ?_
                  rotate_left
                  · intro w'
                    go_simp
                    with_reducible rfl
                  rotate_left
                  · simp only [Act.put, List.setIfInBounds_toArray, List.set_cons_zero, List.set_cons_succ, i64_w, i32_w]
                    rfl
                  refine pure_ (i := 2) (N := some 92) (v := ?_) (a' := ?_) #[true, false, true, false, false, false] rfl rfl (by kernel_rfl) (fun _ _ _ h => h) (Or.inl ⟨by rfl, ?_⟩) ?_ ?_
                  rotate_left
                  · intro w'
                    go_simp
                    with_reducible rfl
                  rotate_left
                  · simp only [Act.put, List.setIfInBounds_toArray, List.set_cons_zero, List.set_cons_succ, i64_w, i32_w]
                    rfl
                  refine take_ (i := 3) (N := some 93) (v := ?_) (a' := ?_) #[true, false, true, true, false, false] rfl rfl (by kernel_rfl) (fun _ _ _ h => h) (Or.inl ⟨by rfl, ?_⟩) hHeld ?_ ?_
                  rotate_left
                  · intro w' s0
                    go_simp
                    with_reducible rfl
                  rotate_left
                  · simp only [Act.put, List.setIfInBounds_toArray, List.set_cons_zero, List.set_cons_succ, i64_w, i32_w]
                    rfl
                  refine pure_ (i := 4) (N := some 94) (v := ?_) (a' := ?_) #[true, false, true, true, true, false] rfl rfl (by kernel_rfl) (fun _ _ _ h => h) (Or.inl ⟨by rfl, ?_⟩) ?_ ?_
                  rotate_left
                  · intro w'
                    go_simp
                    with_reducible rfl
                  rotate_left
                  · simp only [Act.put, List.setIfInBounds_toArray, List.set_cons_zero, List.set_cons_succ, i64_w, i32_w]
                    rfl
                  refine one_ (i := 1) (N := some 91) #[true, true, true, true, true, false] rfl rfl (by kernel_rfl) (by decide) (fun K hK => ?_)
                  refine goes_ Try.func18 (by kernel_rfl) rfl #[.pointer (some ⟨g, 0, none⟩)] (by rfl) rfl rfl (by first | (simp only [List.map_toArray, List.map_cons, List.map_nil]; done) | (simp only [List.map_toArray, List.map_cons, List.map_nil]; rfl)) ?_
                  with_reducible refine (ring_ClearI.calls (w0 := w) HPd.out.ring HPd.out.below).mono ?_
                  rintro e w3 ⟨rfl, hR3, hB3, hk3⟩
                  refine ⟨_, rfl, ?_⟩
                  have HP3 := Aside0.mk (HPd.out.turned hR3 hB3 hk3)
                  refine hK.out _ _ ((cell_kept (a := ⟨D, 0, none⟩) d0 hk3 HP1.out.dne)) (fun hHeld => ?_)
                  clear hK K
                  refine norm_ (a' := ?_) ?_ ?_
                  rotate_left
                  · show Act.put _ (some 91) _ = _
                    simp only [Act.put, List.setIfInBounds_toArray, List.set_cons_zero, List.set_cons_succ, i64_w, i32_w]
                    rfl
                  refine pure_ (i := 5) (N := some 95) (v := ?_) (a' := ?_) #[true, true, true, true, true, true] rfl rfl (by kernel_rfl) (fun _ _ _ h => h) (Or.inl ⟨by rfl, ?_⟩) ?_ ?_
                  rotate_left
                  · intro w'
                    go_simp
                    with_reducible rfl
                  rotate_left
                  · simp only [Act.put, List.setIfInBounds_toArray, List.set_cons_zero, List.set_cons_succ, i64_w, i32_w]
                    rfl
                  refine done_ (by kernel_rfl) ?_
                  obtain ⟨q0, q1, q2⟩ := blk_cells3 HP3.out.row
                  have z0 := fun j => blk_frozen HP3.out.row j
                  clear hR3 hB3 hk3 d0 d1 d2
                  go_wp2_with fail
                  go_meet
                  case rel => exact ⟨_, _, _, ⟨HP3.out.nilled rfl⟩⟩
                · have e3 : (kind == 3) = false := beq_eq_false_iff_ne.2 k3
                  clear k3
                  go_wp2_with fail
                  go_meet
                  case rel => exact ⟨_, _, _, HP1⟩
          case rest =>
            obtain ⟨vL, L, lost, HP⟩ := hcut
            apply_assumption
            obtain ⟨d0, d1, d2⟩ := blk_cells3 HP.out.row
            have hlD := blk_lt HP.out.row
            obtain ⟨AL, cL, rfl, hrL, hcL⟩ := HP.out.rd
            have HPd := Aside0.mk (HP.out.quiet (Below.refl _ _).drew)
            clear hrL hk0 hk1
            go_upto_region 26 with (fail)
            refine start_ (n := 20) (S := fun w' => w'.cell? ⟨D, 0, none⟩ = some (.slice AL L.length cL) ∧ w'.cell? ⟨D, 1, none⟩ = some (.int .i64 (n : Int)) ∧ w'.cell? ⟨D, 2, none⟩ = some (.int .i64 lost)) (ds := []) #[false, false, false, false, false, false, false, false, false, false, false, false, false, false, false, false, false, false, false, false] (by kernel_rfl) rfl rfl ⟨d0, d1, d2⟩ (fun hHeld => ?_)
            refine pure_ (i := 0) (N := some 97) (v := ?_) (a' := ?_) #[true, false, false, false, false, false, false, false, false, false, false, false, false, false, false, false, false, false, false, false] rfl rfl (by kernel_rfl) (fun _ _ _ h => h) (Or.inl ⟨by rfl, ?_⟩) ?_ ?_
            rotate_left
            · intro w'
              go_simp
              with_reducible rfl
            rotate_left
            · simp only [Act.put, List.setIfInBounds_toArray, List.set_cons_zero, List.set_cons_succ, i64_w, i32_w]
              rfl
            refine pure_ (i := 2) (N := some 99) (v := ?_) (a' := ?_) #[true, false, true, false, false, false, false, false, false, false, false, false, false, false, false, false, false, false, false, false] rfl rfl (by kernel_rfl) (fun _ _ _ h => h) (Or.inl ⟨by rfl, ?_⟩) ?_ ?_
            rotate_left
            · intro w'
              go_simp
              with_reducible rfl
            rotate_left
            · simp only [Act.put, List.setIfInBounds_toArray, List.set_cons_zero, List.set_cons_succ, i64_w, i32_w]
              rfl
            refine take_ (i := 3) (N := some 100) (v := ?_) (a' := ?_) #[true, false, true, true, false, false, false, false, false, false, false, false, false, false, false, false, false, false, false, false] rfl rfl (by kernel_rfl) (fun _ _ _ h => h) (Or.inl ⟨by rfl, ?_⟩) hHeld ?_ ?_
            rotate_left
            · rintro w' ⟨s0, s1, s2⟩
              go_simp
              with_reducible rfl
            rotate_left
            · simp only [Act.put, List.setIfInBounds_toArray, List.set_cons_zero, List.set_cons_succ, i64_w, i32_w]
              rfl
            refine pure_ (i := 4) (N := some 101) (v := ?_) (a' := ?_) #[true, false, true, true, true, false, false, false, false, false, false, false, false, false, false, false, false, false, false, false] rfl rfl (by kernel_rfl) (fun _ _ _ h => h) (Or.inl ⟨by rfl, ?_⟩) ?_ ?_
            rotate_left
            · intro w'
              go_simp
              with_reducible rfl
            rotate_left
            · simp only [Act.put, List.setIfInBounds_toArray, List.set_cons_zero, List.set_cons_succ, i64_w, i32_w]
              rfl
            refine one_ (i := 1) (N := some 98) #[true, true, true, true, true, false, false, false, false, false, false, false, false, false, false, false, false, false, false, false] rfl rfl (by kernel_rfl) (by decide) (fun K hK => ?_)
            refine goes_ Try.func19 (by kernel_rfl) rfl #[.pointer (some ⟨g, 0, none⟩)] (by rfl) rfl rfl (by first | (simp only [List.map_toArray, List.map_cons, List.map_nil]; done) | (simp only [List.map_toArray, List.map_cons, List.map_nil]; rfl)) ?_
            with_reducible refine (ring_LenI.calls HPd.out.ring).mono ?_
            rintro e w3 ⟨rfl, hb3⟩
            refine ⟨_, rfl, ?_⟩
            have HP3 := Aside0.mk (HPd.out.quiet hb3)
            obtain ⟨q0, q1, q2⟩ := blk_cells3 HP3.out.row
            refine hK.out _ _ ⟨q0, q1, q2⟩ (fun hHeld => ?_)
            clear hK K
            refine norm_ (a' := ?_) ?_ ?_
            rotate_left
            · show Act.put _ (some 98) _ = _
              simp only [Act.put, List.setIfInBounds_toArray, List.set_cons_zero, List.set_cons_succ, i64_w, i32_w]
              rfl
            refine pure_ (i := 5) (N := some 102) (v := ?_) (a' := ?_) #[true, true, true, true, true, true, false, false, false, false, false, false, false, false, false, false, false, false, false, false] rfl rfl (by kernel_rfl) (fun _ _ _ h => h) (Or.inl ⟨by rfl, ?_⟩) ?_ ?_
            rotate_left
            · intro w'
              go_simp
              with_reducible rfl
            rotate_left
            · simp only [Act.put, List.setIfInBounds_toArray, List.set_cons_zero, List.set_cons_succ, i64_w, i32_w]
              rfl
            refine pure_ (i := 6) (N := some 103) (v := ?_) (a' := ?_) #[true, true, true, true, true, true, true, false, false, false, false, false, false, false, false, false, false, false, false, false] rfl rfl (by kernel_rfl) (fun _ _ _ h => h) (Or.inl ⟨by rfl, ?_⟩) ?_ ?_
            rotate_left
            · intro w'
              go_simp
              with_reducible rfl
            rotate_left
            · simp only [Act.put, List.setIfInBounds_toArray, List.set_cons_zero, List.set_cons_succ, i64_w, i32_w]
              rfl
            refine pure_ (i := 7) (N := some 104) (v := ?_) (a' := ?_) #[true, true, true, true, true, true, true, true, false, false, false, false, false, false, false, false, false, false, false, false] rfl rfl (by kernel_rfl) (fun _ _ _ h => h) (Or.inl ⟨by rfl, ?_⟩) ?_ ?_
            rotate_left
            · intro w'
              go_simp
              with_reducible rfl
            rotate_left
            · simp only [Act.put, List.setIfInBounds_toArray, List.set_cons_zero, List.set_cons_succ, i64_w, i32_w]
              rfl
            refine pure_ (i := 9) (N := some 106) (v := ?_) (a' := ?_) #[true, true, true, true, true, true, true, true, false, true, false, false, false, false, false, false, false, false, false, false] rfl rfl (by kernel_rfl) (fun _ _ _ h => h) (Or.inl ⟨by rfl, ?_⟩) ?_ ?_
            rotate_left
            · intro w'
              go_simp
              with_reducible rfl
            rotate_left
            · simp only [Act.put, List.setIfInBounds_toArray, List.set_cons_zero, List.set_cons_succ, i64_w, i32_w]
              rfl
            refine take_ (i := 10) (N := some 107) (v := ?_) (a' := ?_) #[true, true, true, true, true, true, true, true, false, true, true, false, false, false, false, false, false, false, false, false] rfl rfl (by kernel_rfl) (fun _ _ _ h => h) (Or.inl ⟨by rfl, ?_⟩) hHeld ?_ ?_
            rotate_left
            · rintro w' ⟨s0, s1, s2⟩
              go_simp
              with_reducible rfl
            rotate_left
            · simp only [Act.put, List.setIfInBounds_toArray, List.set_cons_zero, List.set_cons_succ, i64_w, i32_w]
              rfl
            refine one_ (i := 8) (N := some 105) #[true, true, true, true, true, true, true, true, true, true, true, false, false, false, false, false, false, false, false, false] rfl rfl (by kernel_rfl) (by decide) (fun K hK => ?_)
            refine goes_ Try.func12 (by kernel_rfl) rfl #[.pointer (some ⟨g, 0, none⟩)] (by rfl) rfl rfl (by first | (simp only [List.map_toArray, List.map_cons, List.map_nil]; done) | (simp only [List.map_toArray, List.map_cons, List.map_nil]; rfl)) ?_
            with_reducible refine (ring_RoomI.calls HP3.out.ring).mono ?_
            rintro e w4 ⟨rfl, hb4⟩
            refine ⟨_, rfl, ?_⟩
            have HP4 := Aside0.mk (HP3.out.quiet hb4)
            obtain ⟨r0, r1, r2⟩ := blk_cells3 HP4.out.row
            refine hK.out _ _ ⟨r0, r1, r2⟩ (fun hHeld => ?_)
            clear hK K
            refine norm_ (a' := ?_) ?_ ?_
            rotate_left
            · show Act.put _ (some 105) _ = _
              simp only [Act.put, List.setIfInBounds_toArray, List.set_cons_zero, List.set_cons_succ, i64_w, i32_w]
              rfl
            refine pure_ (i := 11) (N := some 108) (v := ?_) (a' := ?_) #[true, true, true, true, true, true, true, true, true, true, true, true, false, false, false, false, false, false, false, false] rfl rfl (by kernel_rfl) (fun _ _ _ h => h) (Or.inl ⟨by rfl, ?_⟩) ?_ ?_
            rotate_left
            · intro w'
              go_simp
              with_reducible rfl
            rotate_left
            · simp only [Act.put, List.setIfInBounds_toArray, List.set_cons_zero, List.set_cons_succ, i64_w, i32_w]
              rfl
            refine pure_ (i := 12) (N := some 109) (v := ?_) (a' := ?_) #[true, true, true, true, true, true, true, true, true, true, true, true, true, false, false, false, false, false, false, false] rfl rfl (by kernel_rfl) (fun _ _ _ h => h) (Or.inl ⟨by rfl, ?_⟩) ?_ ?_
            rotate_left
            · intro w'
              go_simp
              with_reducible rfl
            rotate_left
            · simp only [Act.put, List.setIfInBounds_toArray, List.set_cons_zero, List.set_cons_succ, i64_w, i32_w]
              rfl
            refine pure_ (i := 13) (N := some 110) (v := ?_) (a' := ?_) #[true, true, true, true, true, true, true, true, true, true, true, true, true, true, false, false, false, false, false, false] rfl rfl (by kernel_rfl) (fun _ _ _ h => h) (Or.inl ⟨by rfl, ?_⟩) ?_ ?_
            rotate_left
            · intro w'
              go_simp
              with_reducible rfl
            rotate_left
            · simp only [Act.put, List.setIfInBounds_toArray, List.set_cons_zero, List.set_cons_succ, i64_w, i32_w]
              rfl
            refine pure_ (i := 14) (N := some 111) (v := ?_) (a' := ?_) #[true, true, true, true, true, true, true, true, true, true, true, true, true, true, true, false, false, false, false, false] rfl rfl (by kernel_rfl) (fun _ _ _ h => h) (Or.inl ⟨by rfl, ?_⟩) ?_ ?_
            rotate_left
            · intro w'
              go_simp
              with_reducible rfl
            rotate_left
            · simp only [Act.put, List.setIfInBounds_toArray, List.set_cons_zero, List.set_cons_succ, i64_w, i32_w]
              rfl
            refine pure_ (i := 16) (N := some 113) (v := ?_) (a' := ?_) #[true, true, true, true, true, true, true, true, true, true, true, true, true, true, true, false, true, false, false, false] rfl rfl (by kernel_rfl) (fun _ _ _ h => h) (Or.inl ⟨by rfl, ?_⟩) ?_ ?_
            rotate_left
            · intro w'
              go_simp
              with_reducible rfl
            rotate_left
            · simp only [Act.put, List.setIfInBounds_toArray, List.set_cons_zero, List.set_cons_succ, i64_w, i32_w]
              rfl
            refine take_ (i := 17) (N := some 114) (v := ?_) (a' := ?_) #[true, true, true, true, true, true, true, true, true, true, true, true, true, true, true, false, true, true, false, false] rfl rfl (by kernel_rfl) (fun _ _ _ h => h) (Or.inl ⟨by rfl, ?_⟩) hHeld ?_ ?_
            rotate_left
            · rintro w' ⟨s0, s1, s2⟩
              go_simp
              with_reducible rfl
            rotate_left
            · simp only [Act.put, List.setIfInBounds_toArray, List.set_cons_zero, List.set_cons_succ, i64_w, i32_w]
              rfl
            refine one_ (i := 15) (N := some 112) #[true, true, true, true, true, true, true, true, true, true, true, true, true, true, true, true, true, true, false, false] rfl rfl (by kernel_rfl) (by decide) (fun K hK => ?_)
            refine goes_ Try.func20 (by kernel_rfl) rfl #[.pointer (some ⟨g, 0, none⟩)] (by rfl) rfl rfl (by first | (simp only [List.map_toArray, List.map_cons, List.map_nil]; done) | (simp only [List.map_toArray, List.map_cons, List.map_nil]; rfl)) ?_
            with_reducible refine (ring_LostI.calls HP4.out.ring).mono ?_
            rintro e w5 ⟨rfl, hb5⟩
            refine ⟨_, rfl, ?_⟩
            have HP5 := Aside0.mk (HP4.out.quiet hb5)
            obtain ⟨p0, p1, p2⟩ := blk_cells3 HP5.out.row
            refine hK.out _ _ ⟨p0, p1, p2⟩ (fun hHeld => ?_)
            clear hK K
            refine norm_ (a' := ?_) ?_ ?_
            rotate_left
            · show Act.put _ (some 112) _ = _
              simp only [Act.put, List.setIfInBounds_toArray, List.set_cons_zero, List.set_cons_succ, i64_w, i32_w]
              rfl
            refine pure_ (i := 18) (N := some 115) (v := ?_) (a' := ?_) #[true, true, true, true, true, true, true, true, true, true, true, true, true, true, true, true, true, true, true, false] rfl rfl (by kernel_rfl) (fun _ _ _ h => h) (Or.inl ⟨by rfl, ?_⟩) ?_ ?_
            rotate_left
            · intro w'
              go_simp
              with_reducible rfl
            rotate_left
            · simp only [Act.put, List.setIfInBounds_toArray, List.set_cons_zero, List.set_cons_succ, i64_w, i32_w]
              rfl
            refine pure_ (i := 19) (N := some 116) (v := ?_) (a' := ?_) #[true, true, true, true, true, true, true, true, true, true, true, true, true, true, true, true, true, true, true, true] rfl rfl (by kernel_rfl) (fun _ _ _ h => h) (Or.inl ⟨by rfl, ?_⟩) ?_ ?_
            rotate_left
            · intro w'
              go_simp
              with_reducible rfl
            rotate_left
            · simp only [Act.put, List.setIfInBounds_toArray, List.set_cons_zero, List.set_cons_succ, i64_w, i32_w]
              rfl
            refine done_ (by kernel_rfl) ?_
            go_wp2_with fail
            go_roundw
            case rel => exact ⟨i + 1, L, lost, _, by omega, by first | rfl | simp, HP5⟩
            case measure => simp [intOf]; omega
      · have v1 : decide ((i : Int) < (l1.length : Int)) = false := decide_eq_false (by omega)
        obtain rfl : i = l1.length := by omega
        obtain ⟨d0, d1, d2⟩ := blk_cells3 HP.out.row
        have hlD := blk_lt HP.out.row
        have hroom := HP.out.ring.roomy
        have HPd := Aside0.mk (HP.out.quiet (Below.refl _ _).drew)
        obtain ⟨AL, cL, rfl, hrL, hcL⟩ := HPd.out.rd
        have HCL : Aside0 (Kd.C (Kd.int .i64) _ AL L.length L) := ⟨Kd.C_of_reads (d := (0 : Int)) (h1 := fun _ => rfl) hrL⟩
        clear hrL
        go_upto_region 29 with (fail)
        refine start_ (n := 9) (S := fun w' => w'.cell? ⟨D, 0, none⟩ = some (.slice AL L.length cL)) (ds := []) #[false, false, false, false, false, false, false, false, false] (by kernel_rfl) rfl rfl (d0) (fun hHeld => ?_)
        refine pure_ (i := 0) (N := some 118) (v := ?_) (a' := ?_) #[true, false, false, false, false, false, false, false, false] rfl rfl (by kernel_rfl) (fun _ _ _ h => h) (Or.inl ⟨by rfl, ?_⟩) ?_ ?_
        rotate_left
        · intro w'
          go_simp
          with_reducible rfl
        rotate_left
        · simp only [Act.put, List.setIfInBounds_toArray, List.set_cons_zero, List.set_cons_succ, i64_w, i32_w]
          rfl
        refine pure_ (i := 2) (N := some 120) (v := ?_) (a' := ?_) #[true, false, true, false, false, false, false, false, false] rfl rfl (by kernel_rfl) (fun _ _ _ h => h) (Or.inl ⟨by rfl, ?_⟩) ?_ ?_
        rotate_left
        · intro w'
          go_simp
          with_reducible rfl
        rotate_left
        · simp only [Act.put, List.setIfInBounds_toArray, List.set_cons_zero, List.set_cons_succ, i64_w, i32_w]
          rfl
        refine take_ (i := 3) (N := some 121) (v := ?_) (a' := ?_) #[true, false, true, true, false, false, false, false, false] rfl rfl (by kernel_rfl) (fun _ _ _ h => h) (Or.inl ⟨by rfl, ?_⟩) hHeld ?_ ?_
        rotate_left
        · intro w' s0
          go_simp
          with_reducible rfl
        rotate_left
        · simp only [Act.put, List.setIfInBounds_toArray, List.set_cons_zero, List.set_cons_succ, i64_w, i32_w]
          rfl
        refine one_ (i := 1) (N := some 119) #[true, true, true, true, false, false, false, false, false] rfl rfl (by kernel_rfl) (by decide) (fun K hK => ?_)
        refine goes_ Try.func10 (by kernel_rfl) rfl #[.pointer (some ⟨g, 0, none⟩)] (by rfl) rfl rfl (by first | (simp only [List.map_toArray, List.map_cons, List.map_nil]; done) | (simp only [List.map_toArray, List.map_cons, List.map_nil]; rfl)) ?_
        with_reducible refine (ring_AllI.calls HPd.out.ring HPd.out.below.size).mono ?_
        rintro e w3 ⟨v10, rfl, ho3, hb3⟩
        refine ⟨_, rfl, ?_⟩
        obtain ⟨A10, c10, hv10, hc10, hcc10⟩ := own_readsI ho3 (by omega)
        subst hv10
        have HP3 := Aside0.mk (HPd.out.quiet hb3)
        obtain ⟨q0, q1, q2⟩ := blk_cells3 HP3.out.row
        have HC3 := Aside0.mk (Kd.C_below HCL.out hb3)
        have HC10 := Aside0.mk hc10
        clear ho3 hc10
        refine hK.out _ _ (q0) (fun hHeld => ?_)
        clear hK K
        refine norm_ (a' := ?_) ?_ ?_
        rotate_left
        · show Act.put _ (some 119) _ = _
          simp only [Act.put, List.setIfInBounds_toArray, List.set_cons_zero, List.set_cons_succ, i64_w, i32_w]
          rfl
        refine one_ (i := 4) (N := some 122) #[true, true, true, true, true, false, false, false, false] rfl rfl (by kernel_rfl) (by decide) (fun K hK => ?_)
        refine goes_ Try.func11 (by kernel_rfl) rfl #[.slice A10 L.length c10, .slice AL L.length cL] (by rfl) rfl rfl (by first | (simp only [List.map_toArray, List.map_cons, List.map_nil]; done) | (simp only [List.map_toArray, List.map_cons, List.map_nil]; rfl)) ?_
        with_reducible refine (signalboxref09_Ints.calls (L.length + 1) A10 c10 L AL cL L true _ HC10.out hcc10 HC3.out hcL (ints_refl L (by omega))).mono ?_
        rintro e w4 ⟨rfl, hd4⟩
        refine ⟨_, rfl, ?_⟩
        have HP4 := Aside0.mk (HP3.out.quiet hd4.below)
        obtain ⟨r0, r1, r2⟩ := blk_cells3 HP4.out.row
        refine hK.out _ _ (r0) (fun hHeld => ?_)
        clear hK K
        refine norm_ (a' := ?_) ?_ ?_
        rotate_left
        · show Act.put _ (some 122) _ = _
          simp only [Act.put, List.setIfInBounds_toArray, List.set_cons_zero, List.set_cons_succ, i64_w, i32_w]
          rfl
        refine pure_ (i := 5) (N := some 123) (v := ?_) (a' := ?_) #[true, true, true, true, true, true, false, false, false] rfl rfl (by kernel_rfl) (fun _ _ _ h => h) (Or.inl ⟨by rfl, ?_⟩) ?_ ?_
        rotate_left
        · intro w'
          go_simp
          with_reducible rfl
        rotate_left
        · simp only [Act.put, List.setIfInBounds_toArray, List.set_cons_zero, List.set_cons_succ, i64_w, i32_w]
          rfl
        refine one_ (i := 6) (N := some 124) #[true, true, true, true, true, true, true, false, false] rfl rfl (by kernel_rfl) (by decide) (fun K hK => ?_)
        refine goes_ Try.func7 (by kernel_rfl) rfl #[] (by rfl) rfl rfl (by first | (simp only [List.map_toArray, List.map_cons, List.map_nil]; done) | (simp only [List.map_toArray, List.map_cons, List.map_nil]; rfl)) ?_
        with_reducible refine (alive11 _).mono ?_
        rintro e w5 ⟨rfl, hb5⟩
        refine ⟨_, rfl, ?_⟩
        have HP5 := Aside0.mk (HP4.out.quiet hb5)
        obtain ⟨p0, p1, p2⟩ := blk_cells3 HP5.out.row
        refine hK.out _ _ (p0) (fun hHeld => ?_)
        clear hK K
        refine norm_ (a' := ?_) ?_ ?_
        rotate_left
        · show Act.put _ (some 124) _ = _
          simp only [Act.put, List.setIfInBounds_toArray, List.set_cons_zero, List.set_cons_succ, i64_w, i32_w]
          rfl
        refine pure_ (i := 7) (N := some 125) (v := ?_) (a' := ?_) #[true, true, true, true, true, true, true, true, false] rfl rfl (by kernel_rfl) (fun _ _ _ h => h) (Or.inl ⟨by rfl, ?_⟩) ?_ ?_
        rotate_left
        · intro w'
          go_simp
          with_reducible rfl
        rotate_left
        · simp only [Act.put, List.setIfInBounds_toArray, List.set_cons_zero, List.set_cons_succ, i64_w, i32_w]
          rfl
        refine pure_ (i := 8) (N := some 4) (v := ?_) (a' := ?_) #[true, true, true, true, true, true, true, true, true] rfl rfl (by kernel_rfl) (fun _ _ _ h => h) (Or.inl ⟨by rfl, ?_⟩) ?_ ?_
        rotate_left
        · intro w'
          go_simp
          with_reducible rfl
        rotate_left
        · simp only [Act.put, List.setIfInBounds_toArray, List.set_cons_zero, List.set_cons_succ, i64_w, i32_w]
          rfl
        refine done_ (by kernel_rfl) ?_
        go_wp2_with fail
        go_ret
        exact ⟨rfl, HP5.out.below⟩
end Go.Proofs.Ytfdandgcnocklaa.P
