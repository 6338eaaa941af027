/- Bands of packets: All and Flush; no conditions. -/
import Derived.Test.YtkmhdibabdifbaaGBandTake
namespace Go.Proofs.Ytkmhdibabdifbaa.P
open Go.RowKit Go.Maps Go.Proofs.YtkmhdibabdifbaaW.PrintWords Go.Proofs.YtkmhdibabdifbaaW.PrintLast Go.Proofs.YtkmhdibabdifbaaW.PrintMore
set_option linter.unusedVariables false
set_option linter.unusedSimpArgs false


def allQ (q : BQ) (n : Nat) : List Pk := (List.range n).flatMap (fun i : Nat => q.rows (i : Int))
theorem allQ_succ (q : BQ) (n : Nat) : allQ q (n + 1) = allQ q n ++ q.rows (n : Int) := by simp [allQ, List.range_succ]
theorem allQ_len (q : BQ) (h : ∀ i, (q.rows i).length ≤ 1000000) (n : Nat) : (allQ q n).length ≤ n * 1000000 := by
  induction n with
  | zero => simp [allQ]
  | succ n ih =>
    rw [allQ_succ, List.length_append]
    have := h n
    omega
set_option maxHeartbeats 8000000 in
set_option maxRecDepth 100000 in
theorem band_All {w : World} {g n : Nat} {q : BQ} {S : Nat → Prop} (ok : BOk q) (h : IsBand w g n q S) :
    Calls Try.prog 17 #[.pointer (some ⟨g, 0, none⟩)] w fun e w' => ∃ v, e = .returned v ∧ RowX k31 31 w' v (allQ q q.bands.toNat) ∧ (∀ k, v.ownBlock = some k → w.heap.size ≤ k) ∧ Below w.heap.size w w' := by
  obtain ⟨mb, f, h⟩ := h
  have H := Aside0.mk h
  have hk := Aside0.mk ok
  have c1 := h.c1
  have hb := ok.b2
  have hb1 := ok.b1
  clear h ok
  go_enter Try.func17, Try.ntmps17
  go_wp2_with fail
  go_loopw [3, 12] (fun v i wr => ∃ j : Nat, (j : Int) ≤ q.bands ∧ i = .int .i64 j ∧ Aside0 (Kd.R k31 31 wr w.heap.size (fun _ => True) v (allQ q j)) ∧ Aside0 (Below w.heap.size w wr)) (fun _ i _ => q.bands.toNat + 1 - (intOf i).toNat)
  case atStart => exact ⟨0, by omega, rfl, ⟨Kd.R_nil _ _ _ _ _⟩, ⟨Below.refl _ _⟩⟩
  case round =>
    obtain ⟨j, hj, rfl, HR, HB⟩ := hrel
    by_cases hjb : (j : Int) < q.bands
    · have d1 : decide ((j : Int) < q.bands) = true := decide_eq_true hjb
      have hBd := H.out.turn (Turn.of_below HB.out (fun _ => False)) (fun _ _ x => x)
      have c0 := hBd.c0
      have hwf : (Lit.int .i64 (j : Int)).wf = true := WalkArith.wf_i64 (by omega)
      have hl := hBd.map.look Try.underlying3 Try.underlying55 (zero42 _) hwf
      obtain ⟨A, c, hv, hc, hC⟩ := (hBd.row j).reads
      rw [show (f (j : Int)).getD (.slice none 0 0) = sl0 (f j) from rfl, hv] at hl
      have hlen := allQ_len q hk.out.len j
      have hlen2 := hk.out.len j
      have HC := Aside0.mk hC
      have hj1 : j < 1000 := by omega
      clear hBd hv hC
      go_wp2_with (at_builtin; go_loud (refine Kd.R_append_rows k31 (Rr := k31.K wr) (w0 := w) w.heap.size rfl (.tmp 15) (.tmp 21) 42 31 (.agg #[(.int .i64 0), (.int .i64 0), (.int .i64 0), (.string ⟨#[]⟩), (.int .i64 0), (.int .i64 0), (.bool false)]) 64 rfl Try.underlying42 info31 rfl (by decide) (by decide) u3 (allQ q j) (q.rows j) A (q.rows j).length c (fun _ => True) (fun _ => False) rfl rfl HR.out ?aR ?aM (fun _ hk => hk.elim) (fun _ _ => trivial) HB.out HB.out.size ?aL ?_))
      case aR => exact HC.out
      case aM =>
        intro x cs hx
        rw [k31_open hx]
        exact k31_mkM _ _ _ x
      case aL => omega
      intro v1 w1 hR hB1 _ _
      have HR1 := Aside0.mk hR
      have HB1 := Aside0.mk hB1
      clear hR hB1
      go_wp2_with fail
      exact ⟨⟨j + 1, by omega, congrArg (Value.int .i64) (by omega), ⟨by rw [allQ_succ]; exact HR1.out⟩, HB1⟩, by simp only [intOf]; omega⟩
    · have d1 : decide ((j : Int) < q.bands) = false := decide_eq_false hjb
      obtain rfl : j = q.bands.toNat := by omega
      go_wp2_with fail
      go_ret
      exact ⟨_, rfl, RowX.of_R kE HR.out, fun k hk => by
        obtain ⟨_, inner, ho, _⟩ := HR.out
        exact own_base ho k hk, HB.out⟩
set_option maxHeartbeats 8000000 in
set_option maxRecDepth 100000 in
theorem band_Flush {w : World} {g n : Nat} {q : BQ} {S : Nat → Prop} (h : IsBand w g n q S) (hz : q.many ≤ 0 → (∀ i, q.rows i = []) ∧ q.many = 0) :
    Calls Try.prog 22 #[.pointer (some ⟨g, 0, none⟩)] w fun e w' => e = .returned (.int .i64 q.many) ∧ IsBand w' g n { q with rows := fun _ => [], many := 0 } S ∧ Turn S w w' := by
  have HL := Aside0.mk (band_Len h)
  obtain ⟨mb, f, h⟩ := h
  have H := Aside0.mk h
  clear h
  go_enter Try.func22, Try.ntmps22
  go_wp2_with fail
  refine HL.out.mono ?_
  rintro e w1 ⟨rfl, rfl⟩
  by_cases hm : q.many > 0
  · have c0 := H.out.c0
    have z := fun j => blk_frozen H.out.hb j
    have c3 := H.out.c3
    have d1 : decide (q.many > 0) = true := decide_eq_true hm
    clear hz hm
    go_upto_region 3 with (fail)
    obtain ⟨w2, hrun, hM, hT⟩ := H.out.map.clear Try.underlying55 0
    have T : Turn (fun k => k = mb) w1 w2 := (Turn.refl _ w1).map hT (.inl rfl)
    have hB : BandI w2 g mb n (fun _ => none) { q with rows := fun _ => [] } S :=
      ⟨T.blk H.out.hb (fun e => H.out.gm e.symm), hM.mono (Nat.zero_le _), fun i => RowX.nil _ _ _, fun i j k hk => by simp [sl0, Value.ownBlock] at hk, H.out.sg, H.out.sm, fun i k hk => by simp [sl0, Value.ownBlock] at hk, fun k hk => Nat.lt_of_lt_of_le (H.out.lt k hk) T.size⟩
    have HB := Aside0.mk hB
    have HT := Aside0.mk (T.mono (S2 := S) (fun k hk => hk ▸ H.out.sm))
    have hs := blk_set hB.hb 3 (.int .i64 0)
    simp only [List.setIfInBounds_toArray, List.set_cons_zero, List.set_cons_succ] at hs
    have HS := Aside0.mk hs
    have c3 := hB.c3
    have z := fun j => blk_frozen hB.hb j
    clear hM hT T hB hs
    go_wp2_with fail
    go_ret
    have ht : Turn (fun k => k = g) w2 (w2.setCell ⟨g, 3, none⟩ (.int .i64 0)) := (Turn.refl (fun k => k = g) _).setCell (.inl rfl) _
    exact ⟨rfl, ⟨mb, _, HB.out.set ⟨_, q.bands, q.room, 0, q.stopped⟩ rfl HS.out ht⟩, HT.out.trans ht (fun k hk => .inl (hk ▸ HB.out.sg))⟩
  · have d1 : decide (q.many > 0) = false := decide_eq_false hm
    obtain ⟨h1, h2⟩ := hz (by omega)
    have e : q = { q with rows := fun _ => [], many := 0 } := by
      cases q
      simp only at h1 h2
      subst h2
      congr
      funext i
      exact h1 i
    have HE := Aside0.mk e
    clear hz hm e h1 h2
    go_wp2_with fail
    go_ret
    exact ⟨rfl, by rw [← HE.out]; exact ⟨mb, f, H.out⟩, Turn.refl _ _⟩
end Go.Proofs.Ytkmhdibabdifbaa.P
