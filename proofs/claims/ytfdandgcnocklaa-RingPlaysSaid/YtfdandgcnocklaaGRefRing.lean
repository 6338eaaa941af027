/- The document's rows of layer 11, by what they read as. -/
import Derived.Test.YtfdandgcnocklaaGRingNil
import Derived.Test.YtfdandgcnocklaaGBytes
namespace Go.Proofs.Ytfdandgcnocklaa.P
open Go.RowKit Go.Proofs.YtfdandgcnocklaaW.PrintWords Go.Proofs.YtfdandgcnocklaaW.PrintLast Go.Proofs.YtfdandgcnocklaaW.PrintMore
set_option linter.unusedVariables false
set_option linter.unusedSimpArgs false

theorem results_ct1 {P : Program} {fn : Func} {p q : Tmp} {ty : TypeId} (h : fn.results = #[.cell p ty, .tmp q]) (tmps : Array Value) (w : World) (g : Nat) (t : TypeId) (cs : Array Value) (fr : Nat × Nat) (d : TypeDesc)
    (hp : tmps.getD p undef = .pointer (some ⟨g, 0, none⟩)) (hg : w.heap[g]? = some (.cells cs t fr))
    (hu : P.underlying ty = some d) (hd : (match d with | .struct _ | .array _ _ => true | _ => false) = true) (hi : (P.info? ty).map (·.size) = some cs.size) :
    (results fn tmps).run P w = .ok (.tuple #[.agg cs, tmps.getD q undef]) w := by
  have hp' : tmps[p]?.getD undef = .pointer (some ⟨g, 0, none⟩) := by simpa using hp
  simp [results, h, hp', asAddr, run_loadVar_row w g t ty cs fr d hg hu hd hi]
theorem results_ct2 {P : Program} {fn : Func} {p q r : Tmp} {ty : TypeId} (h : fn.results = #[.cell p ty, .tmp q, .tmp r]) (tmps : Array Value) (w : World) (g : Nat) (t : TypeId) (cs : Array Value) (fr : Nat × Nat) (d : TypeDesc)
    (hp : tmps.getD p undef = .pointer (some ⟨g, 0, none⟩)) (hg : w.heap[g]? = some (.cells cs t fr))
    (hu : P.underlying ty = some d) (hd : (match d with | .struct _ | .array _ _ => true | _ => false) = true) (hi : (P.info? ty).map (·.size) = some cs.size) :
    (results fn tmps).run P w = .ok (.tuple #[.agg cs, tmps.getD q undef, tmps.getD r undef]) w := by
  have hp' : tmps[p]?.getD undef = .pointer (some ⟨g, 0, none⟩) := by simpa using hp
  simp [results, h, hp', asAddr, run_loadVar_row w g t ty cs fr d hg hu hd hi]
/-- A slice that reads as L. -/
def RdL (w : World) (v : Value) (L : List Int) : Prop := ∃ A c, v = .slice A L.length c ∧ ReadsInt w .i64 A L.length L ∧ L.length ≤ c
theorem RdL.nil (w : World) : RdL w (.slice none 0 0) [] := ⟨none, 0, rfl, ⟨rfl, by simp, fun h => absurd h (by simp)⟩, Nat.le_refl _⟩
theorem RdL.kept {w w' : World} {v : Value} {L : List Int} {S : Nat → Prop} (h : RdL w v L) (hk : Kept w w' S) (hS : ∀ k, v.ownBlock = some k → ¬ S k) : RdL w' v L := by
  obtain ⟨A, c, rfl, hr, hc⟩ := h
  refine ⟨A, c, rfl, ⟨hr.1, hr.2.1, fun hn => ?_⟩, hc⟩
  obtain ⟨ad, rfl, h⟩ := hr.2.2 hn
  refine ⟨ad, rfl, fun j hj => cell_kept (h j hj) hk ?_⟩
  have e : (ad.add j).block = ad.block := by unfold Addr.add; split <;> rfl
  rw [e]
  exact hS ad.block rfl
theorem RdL.below {w w' : World} {v : Value} {L : List Int} (h : RdL w v L) (hb : Below w.heap.size w w') : RdL w' v L := h.kept (Kept.of_below hb (fun _ => False)) (fun _ _ => id)
theorem RdL.lt {w : World} {v : Value} {L : List Int} (h : RdL w v L) (hn : 0 < L.length) (k : Nat) (hk : v.ownBlock = some k) : k < w.heap.size := by
  obtain ⟨A, c, rfl, hr, hc⟩ := h
  obtain ⟨ad, rfl, h⟩ := hr.2.2 hn
  injection hk with hk
  subst hk
  have := World.block_lt_of_cell? w _ (h 0 hn)
  have e : (ad.add 0).block = ad.block := by unfold Addr.add; split <;> rfl
  rwa [e] at this

set_option maxHeartbeats 4000000 in
set_option maxRecDepth 100000 in
theorem ref_New.calls (a : Int) (w : World) : Calls Try.prog 13 #[.int .i64 a] w fun e w' => e = .returned (.agg #[.slice none 0 0, .int .i64 (clampN a : Int), .int .i64 0]) ∧ Below w.heap.size w w' := by
  have huc := Try.underlying33
  by_cases h1 : a < 1
  · have t1 : decide (a < 1) = true := decide_eq_true h1
    have hn : clampN a = 1 := by unfold clampN; omega
    have HN := Aside0.mk hn
    clear h1 hn
    go_enter Try.func13, Try.ntmps13
    go_wp2_with fail
    refine bodyPost_ret (results_c1 (by rfl) _ _ w.heap.size 33 #[.slice none 0 0, .int .i64 1, .int .i64 0] (0, 0) _ (by rfl) (by exact blk_new _ _) huc (by rfl) (by kernel_rfl)) rfl ?_
    rw [HN.out]
    exact ⟨rfl, (Below.refl _ w).alloc (Nat.le_refl _) _⟩
  · have t1 : decide (a < 1) = false := decide_eq_false h1
    by_cases h2 : a > 1000
    · have t2 : decide (a > 1000) = true := decide_eq_true h2
      have hn : clampN a = 1000 := by unfold clampN; omega
      have HN := Aside0.mk hn
      clear h1 h2 hn
      go_enter Try.func13, Try.ntmps13
      go_wp2_with fail
      refine bodyPost_ret (results_c1 (by rfl) _ _ w.heap.size 33 #[.slice none 0 0, .int .i64 1000, .int .i64 0] (0, 0) _ (by rfl) (by exact blk_new _ _) huc (by rfl) (by kernel_rfl)) rfl ?_
      rw [HN.out]
      exact ⟨rfl, (Below.refl _ w).alloc (Nat.le_refl _) _⟩
    · have t2 : decide (a > 1000) = false := decide_eq_false h2
      have hn : (clampN a : Int) = a := by unfold clampN; omega
      have HN := Aside0.mk hn
      clear h1 h2 hn
      go_enter Try.func13, Try.ntmps13
      go_wp2_with fail
      refine bodyPost_ret (results_c1 (by rfl) _ _ w.heap.size 33 #[.slice none 0 0, .int .i64 a, .int .i64 0] (0, 0) _ (by rfl) (by exact blk_new _ _) huc (by rfl) (by kernel_rfl)) rfl ?_
      rw [HN.out]
      exact ⟨rfl, (Below.refl _ w).alloc (Nat.le_refl _) _⟩

theorem alloc2 (w : World) (o1 o2 : Obj) : ((w.alloc o1).alloc o2).heap[w.heap.size + 1]? = some o2 := by
  have := blk_new (w.alloc o1) o2
  simpa using this
theorem alloc3 (w : World) (o1 o2 o3 : Obj) : (((w.alloc o1).alloc o2).alloc o3).heap[w.heap.size + 1 + 1]? = some o3 := by
  have := blk_new ((w.alloc o1).alloc o2) o3
  simpa using this
abbrev iv (x : Int) : Value := .int .i64 x
theorem own_RdL {w : World} {base : Nat} {v : Value} {L : List Int} (h : w.ownsRow base 3 1 v L.length (encs iv L)) (hb : L.length ≤ 100000) : RdL w v L := by
  obtain ⟨h1, h2⟩ := h
  rcases h2 with ⟨rfl, h0⟩ | ⟨g, cap, cur, rfl, hg, hh, hc, hm, hs, ht⟩
  · obtain rfl := List.eq_nil_of_length_eq_zero h0
    exact RdL.nil w
  · refine ⟨_, cap, rfl, ⟨rfl, by omega, fun hn => ⟨_, rfl, fun j hj => ?_⟩⟩, hc⟩
    rw [addr_addI, blk_cell hh, Nat.zero_add, Array.getElem?_toList.symm]
    have e2 : (cur.toList.take (L.length * 1))[j]? = (encs iv L)[j]? := by rw [ht]
    rw [List.getElem?_take_of_lt (by omega)] at e2
    rw [e2]
    unfold encs
    rw [List.getElem?_map, List.getElem?_eq_getElem hj]
    simp [List.getD_eq_getElem?_getD, hj]
set_option maxHeartbeats 4000000 in
set_option maxRecDepth 100000 in
theorem ref_Put.calls {w : World} {v : Value} {L : List Int} (room : Nat) (lost x : Int) (h : RdL w v L) (hb : L.length ≤ 1000) :
    Calls Try.prog 14 #[.agg #[v, .int .i64 (room : Int), .int .i64 lost], .int .i64 x] w fun e w' => ∃ v', e = .returned (.tuple #[.agg #[v', .int .i64 (room : Int), .int .i64 (if L.length = room then wrap64 (lost + 1) else lost)], .bool (decide (L.length ≠ room))]) ∧
      RdL w' v' (if L.length = room then L else L ++ [x]) ∧ (∀ k, v'.ownBlock = some k → v.ownBlock = some k ∨ w.heap.size ≤ k) ∧ Below w.heap.size w w' := by
  have huc := Try.underlying33
  have HH := Aside0.mk h
  obtain ⟨A, c, rfl, hr, hc⟩ := h
  have HR := Aside0.mk hr
  clear hr
  by_cases hf : L.length = room
  · have t1 : ((L.length : Int) == (room : Int)) = true := beq_iff_eq.2 (by omega)
    rw [if_pos hf, if_pos hf, decide_eq_false (by simpa using hf)]
    clear hf
    go_enter Try.func14, Try.ntmps14
    go_wp2_with fail
    refine bodyPost_ret (results_ct1 (by rfl) _ _ (w.heap.size + 1) 33 #[.slice A L.length c, .int .i64 room, .int .i64 (wrap64 (lost + 1))] (0, 0) _ (by rfl) (alloc2 _ _ _) huc (by rfl) (by kernel_rfl)) rfl ?_
    have hb1 : Below w.heap.size w ((w.alloc (.cells #[.slice A L.length c, .int .i64 room, .int .i64 (wrap64 (lost + 1))] 33)).alloc (.cells #[.slice A L.length c, .int .i64 room, .int .i64 (wrap64 (lost + 1))] 33)) :=
      ((Below.refl _ w).alloc (Nat.le_refl _) _).alloc (by simp) _
    exact ⟨_, rfl, HH.out.below hb1, fun k hk => .inl hk, hb1⟩
  · have t1 : ((L.length : Int) == (room : Int)) = false := beq_eq_false_iff_ne.2 (by omega)
    rw [if_neg hf, if_neg hf, decide_eq_true (by simpa using hf)]
    clear hf
    obtain ⟨W, hW⟩ : ∃ W, W = ((w.alloc (.cells #[.slice A L.length c, .int .i64 room, .int .i64 lost] 33)).alloc (.cells #[.slice none 0 0, .int .i64 0, .int .i64 0] 33)).alloc (.cells #[] 3) := ⟨_, rfl⟩
    have HBW : Aside0 (Below w.heap.size w W) := ⟨by rw [hW]; exact (((Below.refl _ w).alloc (Nat.le_refl _) _).alloc (by simp) _).alloc (by simp; omega) _⟩
    have HO0 : Aside0 (W.ownsRow w.heap.size 3 1 (.slice (some ⟨w.heap.size + 1 + 1, 0, none⟩) 0 0) 0 (encs iv [])) := ⟨by
      refine ⟨rfl, .inr ⟨w.heap.size + 1 + 1, 0, #[], rfl, by omega, ?_, Nat.le_refl _, by simp [maxLen], rfl, rfl⟩⟩
      rw [hW]; exact alloc3 _ _ _ _⟩
    have HRW : Aside0 (ReadsOf iv 0 W A L.length L) := ⟨HR.out.below HBW.out⟩
    have HA0 : Aside0 (W.heap[w.heap.size]? = some (.cells #[.slice A L.length c, .int .i64 room, .int .i64 lost] 33  (0, 0))) := ⟨by
      rw [hW, Below.heap_alloc _ _ _ (by simp; omega), Below.heap_alloc _ _ _ (by simp)]
      exact blk_new w _⟩
    have HA1 : Aside0 (W.heap[w.heap.size + 1]? = some (.cells #[.slice none 0 0, .int .i64 0, .int .i64 0] 33 (0, 0))) := ⟨by
      rw [hW, Below.heap_alloc _ _ _ (by simp)]
      exact alloc2 w _ _⟩
    have HW := Aside0.mk hW
    have HSz : Aside0 (w.heap.size + 1 + 1 < W.heap.size) := ⟨by rw [hW]; simp⟩
    clear hW
    go_enter Try.func14, Try.ntmps14
    go_wp2_with (at_builtin; rw [← HW.out]; refine print_append_row_of (W := W) (w0 := w) iv (0 : Int) w.heap.size rfl (.tmp 18) (.tmp 20) 22 3 (.int .i64 0) 8 rfl Try.underlying22 infoI rfl (by decide) (fun _ => rfl) (.slice (some ⟨w.heap.size + 1 + 1, 0, none⟩) 0 0) [] L A L.length c rfl rfl HO0.out HRW.out HBW.out HBW.out.size ?len ?_)
    case len => simp; omega
    intro v1 w1 ho hB hg hat
    have ho1 : w1.ownsRow w.heap.size 3 1 v1 L.length (encs iv L) := by simpa using ho
    have hvb : ∀ k, v1.ownBlock = some k → w.heap.size + 1 < k := by
      intro k hk
      rcases hat with e | ⟨c', e, hc'⟩
      · rw [hk] at e
        simp only [Value.ownBlock, Option.some.injEq] at e
        omega
      · rw [hk] at e
        injection e with e
        have := HSz.out
        omega
    have hsz1 : w.heap.size + 1 + 1 < w1.heap.size := Nat.lt_of_lt_of_le HSz.out hg.size
    have hz0 : w1.heap[w.heap.size]? = some (.cells #[.slice A L.length c, .int .i64 room, .int .i64 lost] 33  (0, 0)) := (hg.block _ (by have := HSz.out; omega) (by simp [Value.ownBlock]; omega)).trans HA0.out
    have hz1 : w1.heap[w.heap.size + 1]? = some (.cells #[.slice none 0 0, .int .i64 0, .int .i64 0] 33 (0, 0)) := (hg.block _ (by have := HSz.out; omega) (by simp [Value.ownBlock])).trans HA1.out
    have HO1 := Aside0.mk ho1
    have HB1 := Aside0.mk hB
    have HVB := Aside0.mk hvb
    have HS1 := Aside0.mk hsz1
    have HZ0 := Aside0.mk hz0
    have HZ1 := Aside0.mk hz1
    clear ho ho1 hB hg hat hvb hsz1 hz0 hz1 HO0 HRW HBW HA0 HA1 HW HSz
    go_wp2_with (at_builtin; refine print_append_of (W := w1) (w0 := w) iv w.heap.size rfl (.tmp 22) (.tmp 24) 22 3 (.int .i64 0) 8 rfl Try.underlying22 infoI rfl (by decide) v1 L x rfl rfl rfl HO1.out HB1.out HB1.out.size ?len ?_)
    case len => omega
    intro v2 w2 ho hB hg hat
    have hl1 := HS1.out
    have hz0 : w2.heap[w.heap.size]? = some (.cells #[.slice A L.length c, .int .i64 room, .int .i64 lost] 33  (0, 0)) := (hg.block _ (by omega) (fun e => by have := HVB.out _ e.symm; omega)).trans HZ0.out
    have hz1 : w2.heap[w.heap.size + 1]? = some (.cells #[.slice none 0 0, .int .i64 0, .int .i64 0] 33 (0, 0)) := (hg.block _ (by omega) (fun e => by have := HVB.out _ e.symm; omega)).trans HZ1.out
    have HO2 := Aside0.mk (own_RdL (L := L ++ [x]) (by rw [List.length_append, List.length_singleton]; exact ho) (by rw [List.length_append, List.length_singleton]; omega))
    have HB2 := Aside0.mk hB
    have HV2 : Aside0 (∀ k, v2.ownBlock = some k → w.heap.size + 1 < k) := ⟨fun k hk => by
      rcases hat with e | ⟨c', e, hc'⟩
      · exact HVB.out k (e ▸ hk)
      · rw [hk] at e
        injection e with e
        omega⟩
    have k00 := blk_cell hz0 0
    have k01 := blk_cell hz0 1
    have k02 := blk_cell hz0 2
    have k10 := blk_cell hz1 0
    have k11 := blk_cell hz1 1
    have k12 := blk_cell hz1 2
    have f0 := fun j => blk_frozen hz0 j
    have f1 := fun j => blk_frozen hz1 j
    simp only [List.getElem?_toArray, List.getElem?_cons_zero, List.getElem?_cons_succ] at k00 k01 k02 k10 k11 k12
    have HZ0 := Aside0.mk hz0
    have HZ1 := Aside0.mk hz1
    obtain ⟨A2, c2, rfl, hr2, hc2⟩ := HO2.out
    clear ho hB hg hat hz0 hz1 HO1 HB1 HVB hl1 HS1 hr2 hc2
    go_wp2_with fail
    have hl2 : (L ++ [x]).length = L.length + 1 := by simp
    have hg := blk_set (blk_set (blk_set (blk_far (p := ⟨w.heap.size, 0, none⟩) HZ1.out (show w.heap.size + 1 ≠ w.heap.size by omega) (.slice A2 (L.length + 1) c2)) 0 (.slice A2 (L.length + 1) c2)) 1 (.int .i64 room)) 2 (.int .i64 lost)
    simp only [List.setIfInBounds_toArray, List.set_cons_zero, List.set_cons_succ] at hg
    refine bodyPost_ret (results_ct1 (by rfl) _ _ (w.heap.size + 1) 33 #[.slice A2 (L.length + 1) c2, .int .i64 room, .int .i64 lost] (0, 0) _ (by rfl) hg huc (by rfl) (by kernel_rfl)) rfl ?_
    have hk := ((((Kept.refl w2 (fun k => k = w.heap.size ∨ k = w.heap.size + 1)).setCell (p := ⟨w.heap.size, 0, none⟩) (.inl (.inl rfl)) (.slice A2 (L.length + 1) c2)).setCell (p := ⟨w.heap.size + 1, 0, none⟩) (.inl (.inr rfl)) (.slice A2 (L.length + 1) c2)).setCell (p := ⟨w.heap.size + 1, 1, none⟩) (.inl (.inr rfl)) (.int .i64 room)).setCell (p := ⟨w.heap.size + 1, 2, none⟩) (.inl (.inr rfl)) (.int .i64 lost)
    have hr := HO2.out.kept hk (fun k hk hs => by have := HV2.out k hk; omega)
    have hv := HV2.out
    rw [hl2] at hr hv
    exact ⟨_, rfl, hr, fun k hk => .inr (by have := hv k hk; omega), (((HB2.out.setCell (p := ⟨w.heap.size, 0, none⟩) (Nat.le_refl _) _).setCell (p := ⟨w.heap.size + 1, 0, none⟩) (by show w.heap.size ≤ w.heap.size + 1; omega) _).setCell (p := ⟨w.heap.size + 1, 1, none⟩) (by show w.heap.size ≤ w.heap.size + 1; omega) _).setCell (p := ⟨w.heap.size + 1, 2, none⟩) (by show w.heap.size ≤ w.heap.size + 1; omega) _⟩

set_option maxHeartbeats 4000000 in
set_option maxRecDepth 100000 in
theorem ref_Take.calls {w : World} {v : Value} {L : List Int} (room : Nat) (lost : Int) (h : RdL w v L) (hb : L.length ≤ 1000) :
    Calls Try.prog 15 #[.agg #[v, .int .i64 (room : Int), .int .i64 lost]] w fun e w' => ∃ v', e = .returned (.tuple #[.agg #[v', .int .i64 (room : Int), .int .i64 lost], .int .i64 (L.getD 0 0), .bool (decide (L.length ≠ 0))]) ∧
      RdL w' v' L.tail ∧ (∀ k, v'.ownBlock = some k → v.ownBlock = some k) ∧ Below w.heap.size w w' := by
  have huc := Try.underlying33
  have HH := Aside0.mk h
  obtain ⟨A, c, rfl, hr, hc⟩ := h
  have HR := Aside0.mk hr
  cases L with
  | nil =>
    clear hr
    go_enter Try.func15, Try.ntmps15
    go_wp2_with fail
    refine bodyPost_ret (results_ct2 (by rfl) _ _ (w.heap.size + 1) 33 #[.slice A 0 c, .int .i64 room, .int .i64 lost] (0, 0) _ (by rfl) (alloc2 _ _ _) huc (by rfl) (by kernel_rfl)) rfl ?_
    have hb1 : Below w.heap.size w ((w.alloc (.cells #[.slice A 0 c, .int .i64 room, .int .i64 lost] 33)).alloc (.cells #[.slice A 0 c, .int .i64 room, .int .i64 lost] 33)) :=
      ((Below.refl _ w).alloc (Nat.le_refl _) _).alloc (by simp) _
    exact ⟨_, rfl, HH.out.below hb1, fun k hk => hk, hb1⟩
  | cons y M =>
    obtain ⟨ad, rfl, hx⟩ := hr.at_ 0 (by omega) (by simp)
    have t1 : ((((y :: M).length : Nat) : Int) == 0) = false := beq_eq_false_iff_ne.2 (by rw [List.length_cons]; omega)
    have ha0 : ad.add 0 = ad := by unfold Addr.add; split <;> simp_all
    rw [show (0 : Int).toNat = 0 from rfl, ha0, show rd (y :: M) 0 = y from rfl] at hx
    obtain ⟨N, hN⟩ : ∃ N, N = (y :: M).length := ⟨_, rfl⟩
    have HN := Aside0.mk hN
    have hN1 : 1 ≤ N := by rw [hN, List.length_cons]; omega
    have hNb : N ≤ 1000 := by omega
    rw [← hN] at t1 hc hr
    have HHc := Aside0.mk hr
    have hb1 : Below w.heap.size w ((w.alloc (.cells #[.slice (some ad) N c, .int .i64 room, .int .i64 lost] 33)).alloc (.cells #[.slice none 0 0, .int .i64 0, .int .i64 0] 33)) :=
      ((Below.refl _ w).alloc (Nat.le_refl _) _).alloc (by simp) _
    have hlt := World.block_lt_of_cell? w _ hx
    have hx2 := (hb1.cell (p := ad) hlt).trans hx
    rw [← hN]
    by_cases hc1 : c = 1
    · have hM : M = [] := List.eq_nil_of_length_eq_zero (by rw [List.length_cons] at hN; omega)
      have HM := Aside0.mk hM
      obtain rfl : N = 1 := by omega
      subst hc1
      clear hr hN hb1 hx hlt
      go_enter Try.func15, Try.ntmps15
      go_wp2_with fail
      refine bodyPost_ret (results_ct2 (by rfl) _ _ (w.heap.size + 1) 33 #[.slice (some ad) 0 0, .int .i64 room, .int .i64 lost] (0, 0) _ (by rfl) (alloc2 _ _ _) huc (by rfl) (by kernel_rfl)) rfl ?_
      have hb1 : Below w.heap.size w ((w.alloc (.cells #[.slice (some ad) 0 0, .int .i64 room, .int .i64 lost] 33)).alloc (.cells #[.slice (some ad) 0 0, .int .i64 room, .int .i64 lost] 33)) :=
        ((Below.refl _ w).alloc (Nat.le_refl _) _).alloc (by simp) _
      have hM := HM.out
      subst hM
      exact ⟨_, rfl, ⟨some ad, 0, rfl, ⟨rfl, by simp, fun h => absurd h (by simp)⟩, Nat.le_refl _⟩, fun k hk => hk, hb1⟩
    · clear hr hN hb1 hx hlt
      go_enter Try.func15, Try.ntmps15
      go_wp2_with fail
      refine bodyPost_ret (results_ct2 (by rfl) _ _ (w.heap.size + 1) 33 #[.slice (some ⟨ad.block, ad.off + 1, none⟩) (N - 1) (c - 1), .int .i64 room, .int .i64 lost] (0, 0) _ (by rfl) (alloc2 _ _ _) huc (by rfl) (by kernel_rfl)) rfl ?_
      have hb1 : Below w.heap.size w ((w.alloc (.cells #[.slice (some ⟨ad.block, ad.off + 1, none⟩) (N - 1) (c - 1), .int .i64 room, .int .i64 lost] 33)).alloc (.cells #[.slice (some ⟨ad.block, ad.off + 1, none⟩) (N - 1) (c - 1), .int .i64 room, .int .i64 lost] 33)) :=
        ((Below.refl _ w).alloc (Nat.le_refl _) _).alloc (by simp) _
      have hN := HN.out
      have e1 : N - 1 = M.length := by rw [hN, List.length_cons]; omega
      have e2 : ∀ j, (⟨ad.block, ad.off + 1, none⟩ : Addr).add j = ad.add (1 + j) := by
        intro j
        unfold Addr.add
        rw [if_neg (show ¬ 1 + j = 0 by omega)]
        by_cases hj : j = 0
        · subst hj; rw [if_pos rfl]
        · rw [if_neg hj, Nat.add_assoc]
      have hr := HHc.out.below hb1
      rw [decide_eq_true (show N ≠ 0 by omega)]
      refine ⟨.slice (some ⟨ad.block, ad.off + 1, none⟩) (N - 1) (c - 1), rfl, ⟨some ⟨ad.block, ad.off + 1, none⟩, c - 1, by rw [e1]; rfl, ⟨rfl, by have := hr.2.1; show M.length ≤ _; omega, fun hn => ⟨_, rfl, fun j hj => ?_⟩⟩, by show M.length ≤ c - 1; omega⟩, fun k hk => hk, hb1⟩
      rw [e2]
      obtain ⟨ad', he, hcell⟩ := hr.2.2 (by omega)
      injection he with he
      subst he
      have hj' : j < M.length := hj
      have := hcell (1 + j) (by omega)
      rw [Nat.add_comm 1 j, List.getD_cons_succ] at this
      rw [Nat.add_comm 1 j]
      exact this
end Go.Proofs.Ytfdandgcnocklaa.P
