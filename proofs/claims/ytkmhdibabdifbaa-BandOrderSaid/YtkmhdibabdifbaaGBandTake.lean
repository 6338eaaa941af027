/- Bands of packets: Take, All and Flush; no conditions. -/
import Derived.Test.YtkmhdibabdifbaaGBand
namespace Go.Proofs.Ytkmhdibabdifbaa.P
open Go.RowKit Go.Maps Go.Proofs.YtkmhdibabdifbaaW.PrintWords Go.Proofs.YtkmhdibabdifbaaW.PrintLast Go.Proofs.YtkmhdibabdifbaaW.PrintMore
set_option linter.unusedVariables false
set_option linter.unusedSimpArgs false


theorem R_empty {α : Type} (d : Kd α) (e : Nat) (w : World) (base : Nat) (ok : Nat → Prop) {g : Nat} (hb : w.heap[g]? = some (.cells #[] e (0, 0))) (hg : base ≤ g) (hok : ok g) : d.R e w base ok (.slice (some ⟨g, 0, none⟩) 0 0) [] :=
  ⟨fun k hk => by
    have : g = k := by simpa [Value.ownBlock] using hk
    exact this ▸ hok, [], ⟨by simp, .inr ⟨g, 0, #[], rfl, hg, hb, Nat.le_refl _, Nat.zero_le _, by simp, by simp⟩⟩, Reps.none _ _⟩
theorem eq_nil_slice (ad : Addr) (n c : Nat) (w : World) : (binOp .eql 42 (.slice (some ad) n c) (.slice none 0 0)).run Try.prog w = .ok (.bool false) w := by
  have h : ∀ d, (Op.equalIn (d + 1) 42 (.slice (some ad) n c) (.slice none 0 0)).run Try.prog w = .ok false w := fun d => by simp [Op.equalIn, run_underlying Try.underlying42]
  have h2 : (Op.equalIn Op.maxDepth 42 (.slice (some ad) n c) (.slice none 0 0)).run Try.prog w = .ok false w := h 9999
  simp [binOp, Op.equal, h2, Result.andThen]
set_option maxHeartbeats 4000000 in
set_option maxRecDepth 100000 in
theorem clone_calls (ad : Addr) (c : Nat) (xs : List Pk) (w : World) (hC : Kd.C k31 w (some ad) xs.length xs) (hl : xs.length ≤ 1000000) :
    Calls Try.prog 25 #[.slice (some ad) xs.length c] w fun e w' => ∃ v, e = .returned v ∧ RowX k31 31 w' v xs ∧ (∀ k, v.ownBlock = some k → w.heap.size ≤ k) ∧ Below w.heap.size w w' := by
  have HC := Aside0.mk hC
  have hq := eq_nil_slice ad xs.length c w
  clear hC
  go_enter Try.func25, Try.ntmps25
  go_wp2_with (at_builtin; go_loud (refine Kd.R_append_rows k31 (Rr := k31.K w) (w0 := w) 0 rfl (.tmp 5) (.tmp 6) 42 31 (.agg #[(.int .i64 0), (.int .i64 0), (.int .i64 0), (.string ⟨#[]⟩), (.int .i64 0), (.int .i64 0), (.bool false)]) 64 rfl Try.underlying42 info31 rfl (by decide) (by decide) (.slice (some ⟨w.heap.size, 0, none⟩) 0 0) [] xs (some ad) xs.length c (fun k => w.heap.size ≤ k) (fun _ => False) rfl rfl ?aO ?aR ?aM (fun _ hk => hk.elim) ?aF ?aB (Nat.zero_le _) ?aL ?_))
  case aO => exact R_empty _ _ _ _ _ (blk_new _ _) (Nat.zero_le _) (Nat.le_refl _)
  case aR => exact (Kd.C_below HC.out (below_alloc (Below.refl _ _) _))
  case aM =>
    intro x cs hx
    rw [k31_open hx]
    exact k31_mkM _ _ _ x
  case aF => exact fun k hk => by rw [alloc_size] at hk; omega
  case aB => exact (below_alloc (Below.refl _ _) _).mono (Nat.zero_le _)
  case aL => simp; omega
  intro v1 w1 hR _ hg hat
  have HR := Aside0.mk hR
  have HG := Aside0.mk hg
  clear hR hg
  go_wp2_with fail
  go_ret
  have hb0 := ((Turn.refl (fun k => w.heap.size ≤ k) w).alloc (.cells #[] 31)).grown HG.out (fun k hk => .inr (Nat.le_of_eq (Option.some.inj hk)))
  have hb : Turn (fun _ => False) w w1 := hb0.shrink (fun k hk => hk)
  refine ⟨v1, rfl, RowX.of_R kE HR.out, HR.out.1, hb.to_below⟩

/-- The first element of a row of one's own. -/
theorem RowX.head {w : World} {v : Value} {p : Pk} {xs : List Pk} (h : RowX k31 31 w v (p :: xs)) : ∃ b c, v = .slice (some ⟨b, 0, none⟩) (xs.length + 1) c ∧ xs.length + 1 ≤ c ∧ Kd.C k31 w (some ⟨b, 0, none⟩) (p :: xs).length (p :: xs) ∧
    w.cell? ⟨b, 0, none⟩ = some (.int .i64 p.f0.f0) ∧ w.cell? ⟨b, 1, none⟩ = some (.int .i64 p.f0.f1) ∧ w.cell? ⟨b, 2, none⟩ = some (.int .i64 p.f0.f2) ∧ w.cell? ⟨b, 3, none⟩ = some (.string p.f0.f3) ∧ w.cell? ⟨b, 4, none⟩ = some (.int .i64 p.f1) ∧ w.cell? ⟨b, 5, none⟩ = some (.int .i64 p.f2) ∧ w.cell? ⟨b, 6, none⟩ = some (.bool p.f3) := by
  obtain ⟨A, c, rfl, hc, hC⟩ := h.reads
  obtain ⟨ad, rfl, h0, h1, h2, h3, h4, h5, h6⟩ := at_T31 hC 0 (by omega) (by simp)
  obtain ⟨b, rfl⟩ := Kd.R_head h
  have e : (⟨b, 0, none⟩ : Addr).add ((0 : Int).toNat * 7) = ⟨b, 0, none⟩ := rfl
  rw [e] at h0 h1 h2 h3 h4 h5 h6
  exact ⟨b, c, rfl, hc, hC, h0, h1, h2, h3, h4, h5, h6⟩
def takeQ (q : BQ) (i : Int) (t : List Pk) : BQ := { q with rows := fun j => if j = i then t else q.rows j, many := q.many - 1 }
def pkZ : Pk := z31
/-- The first of band i is taken: its row is a new one. -/
theorem BandI.take {W w3 w4 : World} {g mb n : Nat} {f : Int → Option Value} {q : BQ} {S : Nat → Prop} (h : BandI W g mb n f q S) {cl : Int} {v1 : Value} {t : List Pk} (hX : RowX k31 31 w3 v1 t) (hf : ∀ k, v1.ownBlock = some k → W.heap.size ≤ k)
    (hb : Below W.heap.size W w3) (hM : MapI Try.prog 3 .i64 w4 mb (n + 1) (setM f cl (some v1))) (hT : w3.mapTurned w4 mb) :
    BandI w4 g mb (n + 1) (setM f cl (some v1)) { q with rows := fun j => if j = cl then t else q.rows j } (fun k => k < w4.heap.size ∧ (S k ∨ W.heap.size ≤ k)) ∧ Turn S W w4 := by
  have T1 : Turn (fun _ => False) W w3 := Turn.of_below hb _
  have T2 : Turn (fun k => k = mb) w3 w4 := (Turn.refl _ w3).map hT (.inl rfl)
  obtain ⟨es, cm, hm0⟩ := h.map.block
  have hm3 := T1.blk hm0 (fun e => e)
  have hv1 : ∀ k, v1.ownBlock = some k → k ≠ mb := fun k hk e => hX.ne_map hm3 (by rw [hk, e])
  have e1 : sl0 (setM f cl (some v1) cl) = v1 := by rw [setM_same]; rfl
  have e2 : ∀ j, j ≠ cl → sl0 (setM f cl (some v1) j) = sl0 (f j) := fun j hj => by rw [setM_other f _ hj]
  have hlt : ∀ k, S k → k < w4.heap.size := fun k hk => Nat.lt_of_lt_of_le (h.lt k hk) (Nat.le_trans T1.size T2.size)
  refine ⟨⟨?_, hM, fun i => ?_, fun i j k hi hj => ?_, ⟨hlt g h.sg, .inl h.sg⟩, ⟨hlt mb h.sm, .inl h.sm⟩, fun i k hk => ?_, fun k hk => hk.1⟩, ?_⟩
  · exact T2.blk (T1.blk h.hb (fun e => e)) (fun e => h.gm e.symm)
  · by_cases hi : i = cl
    · subst hi
      rw [e1]
      show RowX _ _ _ _ (if i = i then t else q.rows i)
      rw [if_pos rfl]
      exact hX.turn T2 hv1
    · rw [e2 i hi]
      show RowX _ _ _ _ (if i = cl then t else q.rows i)
      rw [if_neg hi]
      exact ((h.row i).turn T1 (fun k hk e => e)).turn T2 (fun k hk e => h.rm i (by rw [hk, e]))
  · have new : ∀ j k, v1.ownBlock = some k → (sl0 (f j)).ownBlock = some k → False := fun j k hk hk2 => by
      have := (h.row j).lt hk2
      have := hf k hk
      omega
    by_cases hi' : i = cl
    · by_cases hj' : j = cl
      · rw [hi', hj']
      · rw [hi', e1] at hi
        rw [e2 j hj'] at hj
        exact absurd (new j k hi hj) (fun x => x)
    · by_cases hj' : j = cl
      · rw [hj', e1] at hj
        rw [e2 i hi'] at hi
        exact absurd (new i k hj hi) (fun x => x)
      · rw [e2 i hi'] at hi
        rw [e2 j hj'] at hj
        exact h.apart i j k hi hj
  · by_cases hi : i = cl
    · subst hi
      rw [e1] at hk
      exact ⟨Nat.lt_of_lt_of_le (hX.lt hk) T2.size, .inr (hf k hk)⟩
    · rw [e2 i hi] at hk
      exact ⟨hlt k (h.sr i k hk), .inl (h.sr i k hk)⟩
  · exact (T1.mono (fun k hk => hk.elim)).trans T2 (fun k hk => .inl (by rw [hk]; exact h.sm))
set_option maxHeartbeats 8000000 in
set_option maxRecDepth 100000 in
theorem band_Take {w : World} {g n : Nat} {q : BQ} {S : Nat → Prop} (hn : n ≤ 1000000) (ok : BOk q) (h : IsBand w g n q S) (i : Nat) (p : Pk) (t : List Pk) (hi : (i : Int) < q.bands) (hp : q.rows i = p :: t) (hj : ∀ j : Nat, j < i → q.rows j = []) (hm : q.many ≠ 0) (hs : q.stopped = false) :
    Calls Try.prog 12 #[.pointer (some ⟨g, 0, none⟩)] w fun e w' => e = .returned (.tuple #[pkV p, .int .i64 0]) ∧ ∃ S', IsBand w' g (n + 1) (takeQ q i t) S' ∧ Turn S w w' ∧ (∀ k, S' k → S k ∨ w.heap.size ≤ k) := by
  obtain ⟨mb, f, h⟩ := h
  have H := Aside0.mk h
  have hk := Aside0.mk ok
  have hi2 : i < 1000 := by have := ok.b2; omega
  have e1 : (q.many == 0) = false := beq_eq_false_iff_ne.mpr hm
  have hm1 : wrap64 (q.many - 1) = q.many - 1 := w64_small _ (by have := ok.m0; omega) (by have := ok.m1; omega)
  have HP := Aside0.mk hp
  have HJ := Aside0.mk hj
  have HI := Aside0.mk hi
  have hu := Try.underlying31
  unfold takeQ pkV
  clear h ok hp hj hi hm
  go_enter Try.func12, Try.ntmps12
  go_upto_region 2 with (fail)
  obtain ⟨D, hD⟩ : ∃ D, D = w.heap.size := ⟨_, rfl⟩
  rw [← hD]
  refine wp_world (fun W => BandI W g mb n f q S ∧ W.heap[D]? = some (.cells #[.int .i64 0, .int .i64 0, .int .i64 0, .string ⟨#[]⟩, .int .i64 0, .int .i64 0, .bool false] 31 (0, 0)) ∧ Turn S w W) ⟨H.out.turn ((Turn.refl (fun _ => False) w).alloc _) (fun _ _ x => x), by rw [hD]; exact blk_new _ _, (Turn.refl S w).alloc _⟩ ?_
  rintro W1 ⟨h, hc, ht⟩
  have c1 := h.c1
  have c3 := h.c3
  have c4 := h.c4
  rw [hs] at c4
  have H1 := Aside0.mk h
  have HD := Aside0.mk hc
  have HT := Aside0.mk ht
  have HDs := Aside0.mk (show ∀ k, S k → k ≠ D from fun k hk e => by have := H.out.lt k hk; omega)
  have HDn := Aside0.mk (Nat.le_of_eq hD.symm)
  have HSS := Aside0.mk hs
  clear h hc ht H hD
  go_wp2_with fail
  go_loopw [26] (fun v wr => ∃ j : Nat, j ≤ i ∧ v = .int .i64 j ∧ wr = W1) (fun v _ => i + 1 - (intOf v).toNat)
  case atStart => exact ⟨0, by omega, rfl, rfl⟩
  case round =>
    obtain ⟨j, hj, rfl, rfl⟩ := hrel
    have d1 : decide ((j : Int) < q.bands) = true := decide_eq_true (by have := HI.out; omega)
    have hwf : (Lit.int .i64 (j : Int)).wf = true := WalkArith.wf_i64 (by omega)
    have hl := H1.out.map.look Try.underlying3 Try.underlying55 (zero42 _) hwf
    have c0 := H1.out.c0
    rw [show (f (j : Int)).getD (.slice none 0 0) = sl0 (f j) from rfl] at hl
    by_cases hji : j < i
    · obtain ⟨A, c, hv, hc, hC⟩ := (H1.out.row j).reads
      rw [HJ.out j hji] at hv hc hC
      rw [hv] at hl
      go_wp2_with fail
      exact ⟨⟨j + 1, by omega, congrArg (Value.int .i64) (by omega), trivial⟩, by simp only [intOf]; omega⟩
    · obtain rfl : j = i := by omega
      have hrow := H1.out.row j
      rw [HP.out] at hrow
      obtain ⟨b, c, hv, hcap, hC, hcells⟩ := hrow.head
      rw [hv] at hl
      obtain ⟨i0, hi0, hz0⟩ := Option.map_eq_some_iff.1 info31
      have hsz : i0.size = 7 := congrArg (fun x => x.2.1) hz0
      have hcut := cut_from (P := Try.prog) 42 31 .i64 Try.underlying42 hi0 7 hsz (some ⟨b, 0, none⟩) (t.length + 1) c 1 (by decide) (by omega)
      have hC1 := Kd.C_drop hC (m := 1) (c := c) (by simp) (by simpa using hcap)
      obtain ⟨ad1, hA1⟩ : ∃ ad1, (if c = 1 then some (⟨b, 0, none⟩ : Addr) else (some (⟨b, 0, none⟩ : Addr)).map (·.add (1 * 7))) = some ad1 := by split <;> exact ⟨_, rfl⟩
      have hcut1 : ∀ W : World, (Instr.slice 42 (.slice (some ⟨b, 0, none⟩) (t.length + 1) c) (some (.int .i64 1)) none none).run Try.prog W = .ok (.slice (some ad1) t.length (c - 1)) W := by
        intro W
        have := hcut W
        rw [show (1 : Int).toNat = 1 from rfl, hA1, Nat.add_sub_cancel] at this
        exact this
      have hC2 : Kd.C k31 wr (some ad1) t.length t := by
        have := hC1
        rw [show (k31).sz = 7 from rfl, hA1] at this
        exact this
      have hlen : t.length ≤ 1000000 := by
        have := hk.out.len j
        rw [HP.out] at this
        simp at this
        omega
      have HV := Aside0.mk hv
      have HCs := Aside0.mk hcells
      have HC2 := Aside0.mk hC2
      clear hcut hC1 hA1 hC2 hcells hC hrow hi0 hz0 hsz hv
      go_upto_region 11 with (fail)
      refine start_ (n := 9) (S := fun w' => w'.cell? ⟨g, 0, none⟩ = some (.map (some mb))) (ds := [8]) #[false, false, false, false, false, false, false, false, false] (by kernel_rfl) rfl rfl (c0) (fun hHeld => ?_)
      refine pure_ (i := 0) (N := some 38) (v := ?_) (a' := ?_) #[true, false, false, false, false, false, false, false, false] rfl rfl (by kernel_rfl) (fun _ _ _ h => h) (Or.inl ⟨by rfl, ?_⟩) ?_ ?_
      rotate_left
      · intro w'
        go_simp
        with_reducible rfl
      rotate_left
      · simp only [Act.put, List.setIfInBounds_toArray, List.set_cons_zero, List.set_cons_succ, i64_w, i32_w]
        rfl
      refine pure_ (i := 1) (N := some 39) (v := ?_) (a' := ?_) #[true, true, false, false, false, false, false, false, false] rfl rfl (by kernel_rfl) (fun _ _ _ h => h) (Or.inl ⟨by rfl, ?_⟩) ?_ ?_
      rotate_left
      · intro w'
        go_simp
        with_reducible rfl
      rotate_left
      · simp only [Act.put, List.setIfInBounds_toArray, List.set_cons_zero, List.set_cons_succ, i64_w, i32_w]
        rfl
      refine pure_ (i := 2) (N := some 40) (v := ?_) (a' := ?_) #[true, true, true, false, false, false, false, false, false] rfl rfl (by kernel_rfl) (fun _ _ _ h => h) (Or.inl ⟨by rfl, ?_⟩) ?_ ?_
      rotate_left
      · intro w'
        go_simp
        with_reducible rfl
      rotate_left
      · simp only [Act.put, List.setIfInBounds_toArray, List.set_cons_zero, List.set_cons_succ, i64_w, i32_w]
        rfl
      refine pure_ (i := 4) (N := some 42) (v := ?_) (a' := ?_) #[true, true, true, false, true, false, false, false, false] rfl rfl (by kernel_rfl) (fun _ _ _ h => h) (Or.inl ⟨by rfl, ?_⟩) ?_ ?_
      rotate_left
      · intro w'
        go_simp
        with_reducible rfl
      rotate_left
      · simp only [Act.put, List.setIfInBounds_toArray, List.set_cons_zero, List.set_cons_succ, i64_w, i32_w]
        rfl
      refine pure_ (i := 5) (N := some 43) (v := ?_) (a' := ?_) #[true, true, true, false, true, true, false, false, false] rfl rfl (by kernel_rfl) (fun _ _ _ h => h) (Or.inl ⟨by rfl, ?_⟩) ?_ ?_
      rotate_left
      · intro w'
        go_simp
        with_reducible rfl
      rotate_left
      · simp only [Act.put, List.setIfInBounds_toArray, List.set_cons_zero, List.set_cons_succ, i64_w, i32_w]
        rfl
      refine pure_ (i := 6) (N := some 44) (v := ?_) (a' := ?_) #[true, true, true, false, true, true, true, false, false] rfl rfl (by kernel_rfl) (fun _ _ _ h => h) (Or.inl ⟨by rfl, ?_⟩) ?_ ?_
      rotate_left
      · intro w'
        go_simp
        with_reducible rfl
      rotate_left
      · simp only [Act.put, List.setIfInBounds_toArray, List.set_cons_zero, List.set_cons_succ, i64_w, i32_w]
        rfl
      refine take_ (i := 3) (N := some 41) (v := ?_) (a' := ?_) #[true, true, true, true, true, true, true, false, false] rfl rfl (by kernel_rfl) (fun _ _ _ h => h) (Or.inl ⟨by rfl, ?_⟩) hHeld ?_ ?_
      rotate_left
      · intro w' s0
        go_simp
        with_reducible rfl
      rotate_left
      · simp only [Act.put, List.setIfInBounds_toArray, List.set_cons_zero, List.set_cons_succ, i64_w, i32_w]
        rfl
      refine one_ (i := 7) (N := some 45) #[true, true, true, true, true, true, true, true, false] rfl rfl (by kernel_rfl) (by decide) (fun K hK => ?_)
      refine goes_ Try.func25 (by kernel_rfl) rfl #[.slice (some ad1) t.length (c - 1)] (by rfl) rfl rfl (by first | (simp only [List.map_toArray, List.map_cons, List.map_nil]; done) | (simp only [List.map_toArray, List.map_cons, List.map_nil]; rfl)) ?_
      with_reducible refine (clone_calls ad1 (c - 1) t _ (Kd.C_below HC2.out (Below.refl _ _).drew) hlen).mono ?_
      rintro e w3 ⟨v1, rfl, hX, hf, hb3⟩
      refine ⟨_, rfl, ?_⟩
      have hT3 : Turn (fun _ => False) wr w3 := (Turn.refl _ wr).drew.step hb3
      refine hK.out _ _ ((hT3.cell c0 (fun e => e))) (fun hHeld => ?_)
      clear hK K
      refine norm_ (a' := ?_) ?_ ?_
      rotate_left
      · show Act.put _ (some 45) _ = _
        simp only [Act.put, List.setIfInBounds_toArray, List.set_cons_zero, List.set_cons_succ, i64_w, i32_w]
        rfl
      refine last_ (i := 8) (N := none) #[true, true, true, true, true, true, true, true, true] rfl rfl (by kernel_rfl) (by decide) (fun K hK => ?_)
      have hM3 := H1.out.map.turn hT3 (fun e => e)
      obtain ⟨w4, hrun, hM4, hT4⟩ := hM3.store Try.underlying3 Try.underlying55 (by unfold maxLen; omega) hwf v1
      have hP := Aside0.mk (H1.out.take hX hf hT3.to_below hM4 hT4)
      refine skip_ (w1 := w4) (by rfl) rfl ?_ ?_
      · go_simp
      refine hK.out _ _ ?_
      clear hK K
      refine done_ (by kernel_rfl) ?_
      have hbm : b ≠ mb := fun e => H1.out.rm j (by rw [HV.out]; exact congrArg some e)
      have hbg : b ≠ g := fun e => H1.out.rg j (by rw [HV.out]; exact congrArg some e)
      have hT : Turn (fun k => k = mb) wr w4 := (hT3.mono (fun k hk => hk.elim)).map hT4 (.inl rfl)
      have hDb := hP.out.2.blk HD.out (fun e => HDs.out D e rfl)
      have hDg : D ≠ g := fun e => HDs.out g H1.out.sg e.symm
      have hbD : b ≠ D := fun e => HDs.out b (H1.out.sr j b (by rw [HV.out]; rfl)) e
      have hP1 := hP.out.1
      have c3' := hP1.c3
      have z := fun j => blk_frozen hP1.hb j
      have ht5 : Turn (fun k => k = g) w4 (w4.setCell ⟨g, 3, none⟩ (.int .i64 (q.many - 1))) := (Turn.refl (fun k => k = g) _).setCell (.inl rfl) _
      have hs5 := blk_set hP1.hb 3 (.int .i64 (q.many - 1))
      simp only [List.setIfInBounds_toArray, List.set_cons_zero, List.set_cons_succ] at hs5
      obtain ⟨k0, k1, k2, k3, k4, k5, k6⟩ := HCs.out
      have HF : Aside0 (BandI (w4.setCell ⟨g, 3, none⟩ (.int .i64 (q.many - 1))) g mb (n + 1) (setM f (j : Int) (some v1)) ⟨fun i => if i = (j : Int) then t else q.rows i, q.bands, q.room, q.many - 1, q.stopped⟩ (fun k => k < w4.heap.size ∧ (S k ∨ wr.heap.size ≤ k)) ∧
          (w4.setCell ⟨g, 3, none⟩ (.int .i64 (q.many - 1))).heap[D]? = some (.cells #[.int .i64 0, .int .i64 0, .int .i64 0, .string ⟨#[]⟩, .int .i64 0, .int .i64 0, .bool false] 31 (0, 0)) ∧
          Turn S w (w4.setCell ⟨g, 3, none⟩ (.int .i64 (q.many - 1))) ∧ (∀ a v, a.block = b → wr.cell? a = some v → (w4.setCell ⟨g, 3, none⟩ (.int .i64 (q.many - 1))).cell? a = some v)) :=
        ⟨hP1.set ⟨_, q.bands, q.room, q.many - 1, q.stopped⟩ rfl hs5 ht5, ht5.blk hDb hDg, (HT.out.then_ hP.out.2).trans ht5 (fun k hk => .inl (hk ▸ H1.out.sg)), fun a v ha hv => ht5.cell (hT.cell hv (by rw [ha]; exact hbm)) (by rw [ha]; exact hbg)⟩
      clear hs5 ht5 hDb hP1 hT hP
      go_upto_region 13 with (fail)
      generalize w4.setCell ⟨g, 3, none⟩ (.int .i64 (q.many - 1)) = w5 at *
      obtain ⟨hB5, hD5, hT5, hcell⟩ := HF.out
      have k0 := hcell _ _ rfl k0
      have k1 := hcell _ _ rfl k1
      have k2 := hcell _ _ rfl k2
      have k3 := hcell _ _ rfl k3
      have k4 := hcell _ _ rfl k4
      have k5 := hcell _ _ rfl k5
      have k6 := hcell _ _ rfl k6
      have m0 := (blk_cell hD5 0).trans rfl
      have m1 := (blk_cell hD5 1).trans rfl
      have m2 := (blk_cell hD5 2).trans rfl
      have m3 := (blk_cell hD5 3).trans rfl
      have m4 := (blk_cell hD5 4).trans rfl
      have m5 := (blk_cell hD5 5).trans rfl
      have m6 := (blk_cell hD5 6).trans rfl
      have z := fun j => blk_frozen hD5 j
      have hg := blk_set (blk_set (blk_set (blk_set (blk_set (blk_set (blk_set hD5 0 (.int .i64 p.f0.f0)) 1 (.int .i64 p.f0.f1)) 2 (.int .i64 p.f0.f2)) 3 (.string p.f0.f3)) 4 (.int .i64 p.f1)) 5 (.int .i64 p.f2)) 6 (.bool p.f3)
      simp only [List.setIfInBounds_toArray, List.set_cons_zero, List.set_cons_succ] at hg
      have HG := Aside0.mk hg
      clear hB5 hD5 hT5 hcell hg
      go_wp2_with fail
      refine bodyPost_ret (results_ct1 (by rfl) _ _ D 31 #[.int .i64 p.f0.f0, .int .i64 p.f0.f1, .int .i64 p.f0.f2, .string p.f0.f3, .int .i64 p.f1, .int .i64 p.f2, .bool p.f3] (0, 0) _ (by rfl) HG.out hu (by rfl) (by kernel_rfl)) rfl ?_
      obtain ⟨hB5, hD5, hT5, hcell⟩ := HF.out
      have T6 := (((((((Turn.refl (fun k => k = D) w5).setCell (p := ⟨D, 0, none⟩) (.inl rfl) (.int .i64 p.f0.f0)).setCell (p := ⟨D, 1, none⟩) (.inl rfl) (.int .i64 p.f0.f1)).setCell (p := ⟨D, 2, none⟩) (.inl rfl) (.int .i64 p.f0.f2)).setCell (p := ⟨D, 3, none⟩) (.inl rfl) (.string p.f0.f3)).setCell (p := ⟨D, 4, none⟩) (.inl rfl) (.int .i64 p.f1)).setCell (p := ⟨D, 5, none⟩) (.inl rfl) (.int .i64 p.f2)).setCell (p := ⟨D, 6, none⟩) (.inl rfl) (.bool p.f3)
      have hDl := blk_lt HD.out
      have hB6 := hB5.turn T6 (fun k hk e => by
        rcases hk.2 with h | h
        · exact HDs.out k h e
        · omega)
      rw [HSS.out] at hB6
      refine ⟨rfl, _, ⟨mb, _, hB6⟩, hT5.trans T6 (fun k hk => .inr (hk ▸ HDn.out)), fun k hk => ?_⟩
      rcases hk.2 with h | h
      · exact .inl h
      · exact .inr (Nat.le_trans HT.out.size h)
set_option maxHeartbeats 8000000 in
set_option maxRecDepth 100000 in
theorem band_Take_no {w : World} {g n : Nat} {q : BQ} {S : Nat → Prop} (h : IsBand w g n q S) (hno : q.many = 0 ∨ q.stopped = true) :
    Calls Try.prog 12 #[.pointer (some ⟨g, 0, none⟩)] w fun e w' => e = .returned (.tuple #[pkV pkZ, .int .i64 6]) ∧ IsBand w' g n q S ∧ Turn S w w' := by
  obtain ⟨mb, f, h⟩ := h
  have H := Aside0.mk h
  have hu := Try.underlying31
  have fin : ∀ W1 W2 D, Turn (fun _ => False) w W1 → BandI W1 g mb n f q S → (∀ k, S k → k ≠ D) → w.heap.size ≤ D → Turn (fun k => k = D) W1 W2 → IsBand W2 g n q S ∧ Turn S w W2 := by
    intro W1 W2 D h1 hB hD hl h2
    exact ⟨⟨mb, f, hB.turn h2 (fun k hk e => hD k hk e)⟩, (h1.mono (fun k hk => hk.elim)).trans h2 (fun k hk => .inr (hk ▸ hl))⟩
  have HFin := Aside0.mk fin
  unfold pkV pkZ z31 z29
  clear h fin
  go_enter Try.func12, Try.ntmps12
  go_upto_region 2 with (fail)
  obtain ⟨D, hD⟩ : ∃ D, D = w.heap.size := ⟨_, rfl⟩
  rw [← hD]
  refine wp_world (fun W => BandI W g mb n f q S ∧ W.heap[D]? = some (.cells #[.int .i64 0, .int .i64 0, .int .i64 0, .string ⟨#[]⟩, .int .i64 0, .int .i64 0, .bool false] 31 (0, 0)) ∧ Turn (fun _ => False) w W) ⟨H.out.turn ((Turn.refl (fun _ => False) w).alloc _) (fun _ _ x => x), by rw [hD]; exact blk_new _ _, (Turn.refl _ w).alloc _⟩ ?_
  rintro W1 ⟨h, hc, ht⟩
  have c1 := h.c1
  have c3 := h.c3
  have c4 := h.c4
  have H1 := Aside0.mk h
  have HD := Aside0.mk hc
  have HT := Aside0.mk ht
  have HDs := Aside0.mk (show ∀ k, S k → k ≠ D from fun k hk e => by have := H.out.lt k hk; omega)
  have HDn := Aside0.mk (Nat.le_of_eq hD.symm)
  have m0 := (blk_cell hc 0).trans rfl
  have m1 := (blk_cell hc 1).trans rfl
  have m2 := (blk_cell hc 2).trans rfl
  have m3 := (blk_cell hc 3).trans rfl
  have m4 := (blk_cell hc 4).trans rfl
  have m5 := (blk_cell hc 5).trans rfl
  have m6 := (blk_cell hc 6).trans rfl
  have z := fun j => blk_frozen hc j
  have hg := blk_set (blk_set (blk_set (blk_set (blk_set (blk_set (blk_set hc 0 (.int .i64 0)) 1 (.int .i64 0)) 2 (.int .i64 0)) 3 (.string ⟨#[]⟩)) 4 (.int .i64 0)) 5 (.int .i64 0)) 6 (.bool false)
  simp only [List.setIfInBounds_toArray, List.set_cons_zero, List.set_cons_succ] at hg
  have HG := Aside0.mk hg
  have T6 := (((((((Turn.refl (fun k => k = D) W1).setCell (p := ⟨D, 0, none⟩) (.inl rfl) (.int .i64 0)).setCell (p := ⟨D, 1, none⟩) (.inl rfl) (.int .i64 0)).setCell (p := ⟨D, 2, none⟩) (.inl rfl) (.int .i64 0)).setCell (p := ⟨D, 3, none⟩) (.inl rfl) (.string ⟨#[]⟩)).setCell (p := ⟨D, 4, none⟩) (.inl rfl) (.int .i64 0)).setCell (p := ⟨D, 5, none⟩) (.inl rfl) (.int .i64 0)).setCell (p := ⟨D, 6, none⟩) (.inl rfl) (.bool false)
  have HE := Aside0.mk (HFin.out W1 _ D HT.out H1.out HDs.out HDn.out T6)
  clear h hc ht H hD hg T6
  by_cases hm : q.many = 0
  · have e1 : (q.many == 0) = true := beq_iff_eq.mpr hm
    clear hm hno
    go_wp2_with fail
    refine bodyPost_ret (results_ct1 (by rfl) _ _ D 31 #[.int .i64 0, .int .i64 0, .int .i64 0, .string ⟨#[]⟩, .int .i64 0, .int .i64 0, .bool false] (0, 0) _ (by rfl) HG.out hu (by rfl) (by kernel_rfl)) rfl ?_
    exact ⟨rfl, HE.out⟩
  · have e1 : (q.many == 0) = false := beq_eq_false_iff_ne.mpr hm
    have e2 : q.stopped = true := hno.resolve_left hm
    rw [e2] at c4
    clear hm hno e2
    go_wp2_with fail
    refine bodyPost_ret (results_ct1 (by rfl) _ _ D 31 #[.int .i64 0, .int .i64 0, .int .i64 0, .string ⟨#[]⟩, .int .i64 0, .int .i64 0, .bool false] (0, 0) _ (by rfl) HG.out hu (by rfl) (by kernel_rfl)) rfl ?_
    exact ⟨rfl, HE.out⟩
end Go.Proofs.Ytkmhdibabdifbaa.P
