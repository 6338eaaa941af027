/- The document's clock: Cancel, Set, Tick; no conditions beyond small numbers. -/
import Derived.Test.YtbmommikjiikaaaGClockRef
namespace Go.Proofs.Ytbmommikjiikaaa.P
open Go.RowKit Go.Maps Go.Proofs.YtbmommikjiikaaaW.PrintWords Go.Proofs.YtbmommikjiikaaaW.PrintLast Go.Proofs.YtbmommikjiikaaaW.PrintMore
set_option linter.unusedVariables false
set_option linter.unusedSimpArgs false

def outO (L : List One1) (key : Int) : List One1 := L.filter (fun x => !(x.f0 == key))
def hasO (L : List One1) (key : Int) : Bool := L.any (fun x => x.f0 == key)
theorem outO_same {L : List One1} {key : Int} (h : ∀ x ∈ L, x.f0 ≠ key) : outO L key = L := List.filter_eq_self.2 (fun x hx => by simpa using h x hx)
theorem hasO_no {L : List One1} {key : Int} (h : ∀ x ∈ L, x.f0 ≠ key) : hasO L key = false := by
  unfold hasO
  rw [List.any_eq_false]
  exact fun x hx => by simpa using h x hx
theorem hasO_not {L : List One1} {key : Int} (h : hasO L key = false) : ∀ x ∈ L, x.f0 ≠ key := fun x hx => by
  unfold hasO at h
  rw [List.any_eq_false] at h
  simpa using h x hx
theorem outO_cut : ∀ {L : List One1}, L.Pairwise (fun a b => a.f0 ≠ b.f0) → ∀ {k : Nat} {x : One1}, L[k]? = some x → L.take k ++ L.drop (k + 1) = outO L x.f0
  | [], _, k, x, h => by simp at h
  | a :: L, hp, 0, x, h => by
    obtain ⟨h1, h2⟩ := List.pairwise_cons.1 hp
    have ha : a = x := by simpa using h
    subst ha
    show L = outO (a :: L) a.f0
    unfold outO
    rw [List.filter_cons_of_neg (by simp)]
    exact (outO_same (fun y hy e => h1 y hy e.symm)).symm
  | a :: L, hp, k + 1, x, h => by
    obtain ⟨h1, h2⟩ := List.pairwise_cons.1 hp
    have hx : L[k]? = some x := by simpa using h
    have hne : a.f0 ≠ x.f0 := h1 x (List.mem_of_getElem? hx)
    show a :: (L.take k ++ L.drop (k + 1)) = outO (a :: L) x.f0
    rw [outO_cut h2 hx]
    unfold outO
    rw [List.filter_cons_of_pos (by simpa using hne)]
theorem outO_len (L : List One1) (key : Int) : (outO L key).length ≤ L.length := List.length_filter_le _ _
theorem ref_store {w : World} {h : Nat} {v0 v1 : Value} {now : Int} {L1 : List One1} {S2 : Nat → Prop} (hb : w.heap[h]? = some (.cells #[.int .i64 now, v0] 40 (0, 0))) (hX : RowX k60 60 w v1 L1) (hs : ∀ k, v1.ownBlock = some k → S2 k) (hh : S2 h) (hl : ∀ k, S2 k → k < w.heap.size) : RefI (w.setCell ⟨h, 1, none⟩ v1) h v1 ⟨now, L1⟩ S2 := by
  have hg := blk_set hb 1 v1
  simp only [List.setIfInBounds_toArray, List.set_cons_zero, List.set_cons_succ] at hg
  have hne : v1.ownBlock ≠ some h := hX.ne_cells hb (by decide)
  have ht : Turn (fun k => k = h) w (w.setCell ⟨h, 1, none⟩ v1) := (Turn.refl (fun k => k = h) _).setCell (.inl rfl) _
  exact ⟨hg, hX.turn ht (fun k hk e => hne (by rw [hk, e])), hh, hs, fun k hk => Nat.lt_of_lt_of_le (hl k hk) ht.size⟩
theorem k1_openM {w w1 : World} {base : Nat} {ok : Nat → Prop} {x : One1} {cs : List Value} (h : k60.K w x cs) : k60.M w1 base ok x cs := by
  rw [k60_open h]
  exact k60_mkM _ _ _ x
set_option maxHeartbeats 8000000 in
set_option maxRecDepth 100000 in
theorem ref_Cancel {w : World} {h : Nat} {r : RCv} {S : Nat → Prop} (key : Int) (H : IsRef h r w S) (hl : r.L.length ≤ 1000000) (hp : r.L.Pairwise (fun a b => a.f0 ≠ b.f0)) :
    Calls Try.prog 17 #[.pointer (some ⟨h, 0, none⟩), .int .i64 key] w fun e w' => e = .returned (.bool (hasO r.L key)) ∧ ∃ S', IsRef h ⟨r.now, outO r.L key⟩ w' S' ∧ Turn S w w' ∧ (∀ k, S' k → S k ∨ w.heap.size ≤ k) := by
  have HI := Aside0.mk H
  have HL := Aside0.mk hl
  have HP := Aside0.mk hp
  clear H hl hp
  go_enter Try.func17, Try.ntmps17
  go_wp2_with fail
  refine (ref_find key HI.out HL.out).mono ?_
  rintro e w1 ⟨⟨i, rfl, hf⟩, hb⟩
  have hT := Turn.of_below hb (fun _ => False)
  rcases hf with ⟨rfl, hf⟩ | ⟨k, x, rfl, hx, hk⟩
  · have HF := Aside0.mk hf
    have HT := Aside0.mk hT
    clear hf hb hT
    have d1 : decide ((-1 : Int) < 0) = true := rfl
    go_wp2_with fail
    go_ret
    refine ⟨by rw [hasO_no HF.out]; rfl, S, ?_, HT.out.mono (fun k hk => hk.elim), fun k hk => .inl hk⟩
    rw [outO_same HF.out]
    exact HI.out.turn HT.out (fun _ _ x => x)
  · obtain ⟨v, hI⟩ := HI.out.turn hT (fun _ _ x => x)
    obtain ⟨b, c, hv, hc, hC, k0, k1⟩ := at1 hI.row k hx
    have hkl := (List.getElem?_eq_some_iff.1 hx).1
    have c1 := hI.c1
    rw [hv] at c1
    have H1 := Aside0.mk hI
    have HT := Aside0.mk hT
    have HR := Aside0.mk hC
    have HX := Aside0.mk (show hasO r.L key = true ∧ r.L.take k ++ r.L.drop (k + 1) = outO r.L key from ⟨by unfold hasO; rw [List.any_eq_true]; exact ⟨x, List.mem_of_getElem? hx, by simpa using hk⟩, by rw [← hk]; exact outO_cut HP.out hx⟩)
    have d1 : decide ((k : Int) < 0) = false := decide_eq_false (by omega)
    have hw1 : wrap64 ((k : Int) + 1) = (k : Int) + 1 := w64_small _ (by omega) (by have := HL.out; omega)
    clear hI hT hb hC k0 k1 hx hk hv
    have ca1 : (w1.alloc (.cells #[] 60)).cell? ⟨h, 1, none⟩ = some (.slice (some ⟨b, 0, none⟩) r.L.length c) := ((Turn.refl (fun _ => False) w1).alloc _).cell c1 (fun e => e)
    obtain ⟨i0, hi0, hz0⟩ := Option.map_eq_some_iff.1 info60'
    have hsz : i0.size = 2 := congrArg (fun x => x.2.1) hz0
    have hct := cut_to (P := Try.prog) 38 60 .i64 Try.underlying38 hi0 (some ⟨b, 0, none⟩) r.L.length c (k : Int) (by omega) (by omega) (by omega)
    rw [Int.toNat_natCast] at hct
    have hcf := cut_from (P := Try.prog) 38 60 .i64 Try.underlying38 hi0 2 hsz (some ⟨b, 0, none⟩) r.L.length c ((k : Int) + 1) (by omega) (by omega)
    rw [show ((k : Int) + 1).toNat = k + 1 by omega] at hcf
    obtain ⟨A', hA'⟩ : ∃ A', A' = (if c = k + 1 then some (⟨b, 0, none⟩ : Addr) else (some (⟨b, 0, none⟩ : Addr)).map (·.add ((k + 1) * 2))) := ⟨_, rfl⟩
    rw [← hA'] at hcf
    have lt1 : (r.L.take k).length = k := by rw [List.length_take]; omega
    have ld1 : (r.L.drop (k + 1)).length = r.L.length - (k + 1) := List.length_drop
    have HTk := Aside0.mk (show Kd.C k60 w1 (some ⟨b, 0, none⟩) k (r.L.take k) by have := Kd.C_take HR.out (m := k) (by omega); rwa [lt1] at this)
    have HDk := Aside0.mk (show Kd.C k60 w1 A' (r.L.length - (k + 1)) (r.L.drop (k + 1)) by have := Kd.C_drop HR.out (m := k + 1) (c := c) (by omega) hc; rw [ld1] at this; rw [hA']; exact this)
    clear hA' hi0 hz0 hsz
    go_wp2_with (at_builtin; go_loud (refine Kd.R_append_rows k60 (Rr := k60.K w1) (w0 := w1) 0 rfl (.tmp 12) (.tmp 18) 38 60 (.agg #[(.int .i64 0), (.int .i64 0)]) 16 rfl Try.underlying38 info60' rfl (by decide) (by decide) (.slice (some ⟨w1.heap.size, 0, none⟩) 0 0) [] (r.L.take k) (some ⟨b, 0, none⟩) k c (fun k => w1.heap.size ≤ k) (fun _ => False) rfl rfl ?aO ?aR ?aM (fun _ hk => hk.elim) ?aF ?aB (Nat.zero_le _) ?aL ?_))
    case aO => exact R_empty _ _ _ _ _ (blk_new _ _) (Nat.zero_le _) (Nat.le_refl _)
    case aR => exact (Kd.C_below HTk.out (below_alloc (Below.refl _ _) _))
    case aM => exact fun x cs hx => k1_openM hx
    case aF => exact fun k hk => by rw [alloc_size] at hk; omega
    case aB => exact (below_alloc (Below.refl _ _) _).mono (Nat.zero_le _)
    case aL => have := HL.out; simp; omega
    intro v1 w4 hR _ hg _
    have hb4 := (((Turn.refl (fun k => w1.heap.size ≤ k) w1).alloc (.cells #[] 60)).grown hg (fun k hk => .inr (Nat.le_of_eq (Option.some.inj hk)))).shrink (fun k hk => hk)
    have hR' : Kd.R k60 60 w4 0 (fun k => w1.heap.size ≤ k) v1 (r.L.take k) := by simpa using hR
    have HR4 := Aside0.mk hR'
    have HT4 := Aside0.mk hb4
    have c4 := (hb4.cell c1 (fun e => e))
    have HDk4 := Aside0.mk (show Kd.C k60 w4 A' (r.L.length - (k + 1)) (r.L.drop (k + 1)) from Kd.C_below HDk.out hb4.to_below)
    clear hR hR' hg hb4 c1 ca1 hct HTk HDk
    go_wp2_with (at_builtin; go_loud (refine Kd.R_append_rows k60 (Rr := k60.K w4) (w0 := w4) 0 rfl (.tmp 21) (.tmp 28) 38 60 (.agg #[(.int .i64 0), (.int .i64 0)]) 16 rfl Try.underlying38 info60' rfl (by decide) (by decide) v1 (r.L.take k) (r.L.drop (k + 1)) A' (r.L.length - (k + 1)) (c - (k + 1)) (fun k => w1.heap.size ≤ k) (fun _ => False) rfl rfl HR4.out HDk4.out ?aM (fun _ hk => hk.elim) ?aF (Below.refl _ _) (Nat.zero_le _) ?aL ?_))
    case aM => exact fun x cs hx => k1_openM hx
    case aF => exact fun k hk => Nat.le_trans HT4.out.size hk
    case aL => have := HL.out; rw [lt1]; omega
    intro v2 w5 hR5 _ hg5 _
    obtain ⟨A2, c2, rfl⟩ := Kd.R_slice hR5
    have hT5 := ((HT4.out.mono (S2 := fun k => w1.heap.size ≤ k) (fun k hk => hk.elim)).grown hg5 (fun k hk => .inr (HR4.out.1 k hk))).shrink (fun k hk => hk)
    rw [HX.out.2] at hR5 ⊢
    have hI5 := H1.out.turn hT5 (fun _ _ x => x)
    have hX := RowX.of_R kE1 hR5
    have hset := hI5.row_set (S2 := fun k => k < w5.heap.size ∧ (S k ∨ w1.heap.size ≤ k)) hX (fun k hk => ⟨hX.lt hk, .inr (hR5.1 k hk)⟩) (fun k hk => ⟨hI5.lt k hk, .inl hk⟩) (fun k hk => hk.1)
    have tset : Turn (fun k => k = h) w5 (w5.setCell ⟨h, 1, none⟩ (.slice A2 (outO r.L key).length c2)) := (Turn.refl (fun k => k = h) _).setCell (.inl rfl) _
    have z := fun j => blk_frozen hI5.hb j
    have d0 := hI5.c1
    have HF := Aside0.mk hset
    have HTF := Aside0.mk (((HT.out.mono (S2 := S) (fun k hk => hk.elim)).trans hT5 (fun k hk => hk.elim)).trans tset (fun k hk => .inl (hk ▸ H1.out.sh)))
    clear hR5 hg5 hT5 hI5 hX hset tset c4 hcf
    go_wp2_with fail
    go_ret
    refine ⟨by rw [HX.out.1]; rfl, _, ⟨_, HF.out⟩, HTF.out, fun k hk => ?_⟩
    rcases hk.2 with q | q
    · exact .inl q
    · exact .inr (Nat.le_trans HT.out.size q)
set_option maxHeartbeats 8000000 in
set_option maxRecDepth 100000 in
theorem ref_Set_arg {w : World} {h : Nat} {r : RCv} {S : Nat → Prop} {key d : Int} (hd : d < 1 ∨ d > 1099511627776) (H : IsRef h r w S) :
    Calls Try.prog 16 #[.pointer (some ⟨h, 0, none⟩), .int .i64 key, .int .i64 d] w fun e w' => e = .returned (.int .i64 2) ∧ Below w.heap.size w w' := by
  have hd2 : decide (d < 1) = true ∨ (decide (d < 1) = false ∧ decide (d > 1099511627776) = true) := by
    by_cases h1 : d < 1
    · exact .inl (decide_eq_true h1)
    · exact .inr ⟨decide_eq_false h1, decide_eq_true (by omega)⟩
  clear hd
  rcases hd2 with d1 | ⟨d1, d2⟩
  all_goals
    go_enter Try.func16, Try.ntmps16
    go_wp2_with fail
    go_ret
    exact ⟨rfl, Below.refl _ _⟩
set_option maxHeartbeats 8000000 in
set_option maxRecDepth 100000 in
theorem ref_Set_many {w : World} {h : Nat} {r : RCv} {S : Nat → Prop} {key d : Int} (h1 : 1 ≤ d) (h2 : d ≤ 1099511627776) (hf : hasO r.L key = false) (hl : r.L.length = 1000) (H : IsRef h r w S) :
    Calls Try.prog 16 #[.pointer (some ⟨h, 0, none⟩), .int .i64 key, .int .i64 d] w fun e w' => e = .returned (.int .i64 9) ∧ Below w.heap.size w w' := by
  have d1 : decide (d < 1) = false := decide_eq_false (by omega)
  have d2 : decide (d > 1099511627776) = false := decide_eq_false (by omega)
  have HI := Aside0.mk H
  have HL := Aside0.mk hl
  have HF := Aside0.mk hf
  clear H hl hf h1 h2
  go_enter Try.func16, Try.ntmps16
  go_wp2_with fail
  refine (ref_find key HI.out (by have := HL.out; omega)).mono ?_
  rintro e w1 ⟨⟨i, rfl, hf⟩, hb⟩
  have hT := Turn.of_below hb (fun _ => False)
  obtain ⟨v, hI⟩ := HI.out.turn hT (fun _ _ x => x)
  rcases hf with ⟨rfl, hf⟩ | ⟨k, x, rfl, hx, hk⟩
  · have HB := Aside0.mk hb
    have c1 := hI.c1
    obtain ⟨A, c, hv, hc, hC⟩ := hI.row.reads
    rw [hv, HL.out] at c1
    clear hI hf hb hT hC hc hv
    have d3 : decide ((-1 : Int) < 0) = true := rfl
    go_wp2_with fail
    go_ret
    exact ⟨rfl, HB.out⟩
  · exact absurd hk (hasO_not HF.out x (List.mem_of_getElem? hx))
set_option maxHeartbeats 8000000 in
set_option maxRecDepth 100000 in
theorem ref_Set {w : World} {h : Nat} {r : RCv} {S : Nat → Prop} {key d : Int} (h1 : 1 ≤ d) (h2 : d ≤ 1099511627776) (n0 : 0 ≤ r.now) (n1 : r.now ≤ 1125899906842624) (hl : r.L.length ≤ 1000000) (hp : r.L.Pairwise (fun a b => a.f0 ≠ b.f0)) (hf : hasO r.L key = true ∨ r.L.length ≠ 1000) (H : IsRef h r w S) :
    Calls Try.prog 16 #[.pointer (some ⟨h, 0, none⟩), .int .i64 key, .int .i64 d] w fun e w' => e = .returned (.int .i64 0) ∧ ∃ S', IsRef h ⟨r.now, outO r.L key ++ [⟨key, r.now + d⟩]⟩ w' S' ∧ Turn S w w' ∧ (∀ k, S' k → S k ∨ w.heap.size ≤ k) := by
  have d1 : decide (d < 1) = false := decide_eq_false (by omega)
  have d2 : decide (d > 1099511627776) = false := decide_eq_false (by omega)
  have hn : wrap64 (r.now + d) = r.now + d := w64_small _ (by omega) (by omega)
  have HI := Aside0.mk H
  have HL := Aside0.mk hl
  have HF := Aside0.mk hf
  have HP := Aside0.mk hp
  clear H hl hf h1 h2 n0 n1 hp
  go_enter Try.func16, Try.ntmps16
  go_wp2_with fail
  refine (ref_find key HI.out HL.out).mono ?_
  rintro e w1 ⟨⟨i, rfl, hf⟩, hb⟩
  have hT := Turn.of_below hb (fun _ => False)
  have HT := Aside0.mk hT
  obtain ⟨v0, hI⟩ := HI.out.turn hT (fun _ _ x => x)
  have H1 := Aside0.mk (show IsRef h r w1 S from ⟨v0, hI⟩)
  have hs : (i = -1 ∧ ((r.L.length : Int) == 1000) = false ∧ decide ((-1 : Int) < 0) = true) ∨ (decide (i < 0) = false) := by
    rcases hf with ⟨rfl, hf⟩ | ⟨k, x, rfl, hx, hk⟩
    · refine .inl ⟨rfl, beq_eq_false_iff_ne.mpr ?_, rfl⟩
      rcases HF.out with h | h
      · rw [hasO_no hf] at h
        cases h
      · omega
    · exact .inr (decide_eq_false (by omega))
  have c1 := hI.c1
  obtain ⟨A, c, hv, hc, hC⟩ := hI.row.reads
  rw [hv] at c1
  clear hI hf hb hT hC hc hv
  rcases hs with ⟨rfl, d3, d4⟩ | d3
  all_goals
    go_wp2_with fail
    refine (ref_Cancel key H1.out HL.out HP.out).mono ?_
    rintro e w3 ⟨rfl, S3, hI3, hT3, hS3⟩
    obtain ⟨v, hI3⟩ := hI3
    have H3 := Aside0.mk hI3
    have HT3 := Aside0.mk (show Turn S w w3 from (HT.out.mono (S2 := S) (fun k hk => hk.elim)).then_ hT3)
    have HS3 := Aside0.mk (show ∀ k, S3 k → S k ∨ w.heap.size ≤ k from fun k hk => (hS3 k hk).imp id (fun h => Nat.le_trans HT.out.size h))
    have HL3 := Aside0.mk (show (outO r.L key).length ≤ 1000000 from Nat.le_trans (outO_len _ _) HL.out)
    have c1 := hI3.c1
    have c0 : w3.cell? ⟨h, 0, none⟩ = some (.int .i64 r.now) := hI3.c0
    have z := fun j => blk_frozen hI3.hb j
    clear hI3 hT3 hS3 d3
    try clear d4
    clear d1 d2
    go_upto_region 6 with (fail)
    refine start_ (n := 18) (S := fun w' => w'.cell? ⟨h, 1, none⟩ = some v ∧ w'.cell? ⟨h, 0, none⟩ = some (.int .i64 r.now)) (ds := [17]) #[false, false, false, false, false, false, false, false, false, false, false, false, false, false, false, false, false, false] (by kernel_rfl) rfl rfl ⟨c1, c0⟩ (fun hHeld => ?_)
    refine pure_ (i := 0) (N := some 28) (v := ?_) (a' := ?_) #[true, false, false, false, false, false, false, false, false, false, false, false, false, false, false, false, false, false] rfl rfl (by kernel_rfl) (fun _ _ _ h => h) (Or.inl ⟨by rfl, ?_⟩) ?_ ?_
    rotate_left
    · intro w'
      go_simp
      with_reducible rfl
    rotate_left
    · simp only [Act.put, List.setIfInBounds_toArray, List.set_cons_zero, List.set_cons_succ, i64_w, i32_w]
      rfl
    refine pure_ (i := 1) (N := some 29) (v := ?_) (a' := ?_) #[true, true, false, false, false, false, false, false, false, false, false, false, false, false, false, false, false, false] rfl rfl (by kernel_rfl) (fun _ _ _ h => h) (Or.inl ⟨by rfl, ?_⟩) ?_ ?_
    rotate_left
    · intro w'
      go_simp
      with_reducible rfl
    rotate_left
    · simp only [Act.put, List.setIfInBounds_toArray, List.set_cons_zero, List.set_cons_succ, i64_w, i32_w]
      rfl
    refine pure_ (i := 2) (N := some 30) (v := ?_) (a' := ?_) #[true, true, true, false, false, false, false, false, false, false, false, false, false, false, false, false, false, false] rfl rfl (by kernel_rfl) (fun _ _ _ h => h) (Or.inl ⟨by rfl, ?_⟩) ?_ ?_
    rotate_left
    · intro w'
      go_simp
      with_reducible rfl
    rotate_left
    · simp only [Act.put, List.setIfInBounds_toArray, List.set_cons_zero, List.set_cons_succ, i64_w, i32_w]
      rfl
    refine pure_ (i := 3) (N := some 31) (v := ?_) (a' := ?_) #[true, true, true, true, false, false, false, false, false, false, false, false, false, false, false, false, false, false] rfl rfl (by kernel_rfl) (fun _ _ _ h => h) (Or.inl ⟨by rfl, ?_⟩) ?_ ?_
    rotate_left
    · intro w'
      go_simp
      with_reducible rfl
    rotate_left
    · simp only [Act.put, List.setIfInBounds_toArray, List.set_cons_zero, List.set_cons_succ, i64_w, i32_w]
      rfl
    refine pure_ (i := 5) (N := some 33) (v := ?_) (a' := ?_) #[true, true, true, true, false, true, false, false, false, false, false, false, false, false, false, false, false, false] rfl rfl (by kernel_rfl) (fun _ _ _ h => h) (Or.inl ⟨by rfl, ?_⟩) ?_ ?_
    rotate_left
    · intro w'
      go_simp
      with_reducible rfl
    rotate_left
    · simp only [Act.put, List.setIfInBounds_toArray, List.set_cons_zero, List.set_cons_succ, i64_w, i32_w]
      rfl
    refine pure_ (i := 6) (N := some 34) (v := ?_) (a' := ?_) #[true, true, true, true, false, true, true, false, false, false, false, false, false, false, false, false, false, false] rfl rfl (by kernel_rfl) (fun _ _ _ h => h) (Or.inl ⟨by rfl, ?_⟩) ?_ ?_
    rotate_left
    · intro w'
      go_simp
      with_reducible rfl
    rotate_left
    · simp only [Act.put, List.setIfInBounds_toArray, List.set_cons_zero, List.set_cons_succ, i64_w, i32_w]
      rfl
    refine pure_ (i := 7) (N := some 35) (v := ?_) (a' := ?_) #[true, true, true, true, false, true, true, true, false, false, false, false, false, false, false, false, false, false] rfl rfl (by kernel_rfl) (fun _ _ _ h => h) (Or.inl ⟨by rfl, ?_⟩) ?_ ?_
    rotate_left
    · intro w'
      go_simp
      with_reducible rfl
    rotate_left
    · simp only [Act.put, List.setIfInBounds_toArray, List.set_cons_zero, List.set_cons_succ, i64_w, i32_w]
      rfl
    refine pure_ (i := 8) (N := some 36) (v := ?_) (a' := ?_) #[true, true, true, true, false, true, true, true, true, false, false, false, false, false, false, false, false, false] rfl rfl (by kernel_rfl) (fun _ _ _ h => h) (Or.inl ⟨by rfl, ?_⟩) ?_ ?_
    rotate_left
    · intro w'
      go_simp
      with_reducible rfl
    rotate_left
    · simp only [Act.put, List.setIfInBounds_toArray, List.set_cons_zero, List.set_cons_succ, i64_w, i32_w]
      rfl
    refine pure_ (i := 10) (N := some 38) (v := ?_) (a' := ?_) #[true, true, true, true, false, true, true, true, true, false, true, false, false, false, false, false, false, false] rfl rfl (by kernel_rfl) (fun _ _ _ h => h) (Or.inl ⟨by rfl, ?_⟩) ?_ ?_
    rotate_left
    · intro w'
      go_simp
      with_reducible rfl
    rotate_left
    · simp only [Act.put, List.setIfInBounds_toArray, List.set_cons_zero, List.set_cons_succ, i64_w, i32_w]
      rfl
    refine take_ (i := 4) (N := some 32) (v := ?_) (a' := ?_) #[true, true, true, true, true, true, true, true, true, false, true, false, false, false, false, false, false, false] rfl rfl (by kernel_rfl) (fun _ _ _ h => h) (Or.inl ⟨by rfl, ?_⟩) hHeld ?_ ?_
    rotate_left
    · rintro w' ⟨s0, s1⟩
      go_simp
      with_reducible rfl
    rotate_left
    · simp only [Act.put, List.setIfInBounds_toArray, List.set_cons_zero, List.set_cons_succ, i64_w, i32_w]
      rfl
    refine take_ (i := 9) (N := some 37) (v := ?_) (a' := ?_) #[true, true, true, true, true, true, true, true, true, true, true, false, false, false, false, false, false, false] rfl rfl (by kernel_rfl) (fun _ _ _ h => h) (Or.inl ⟨by rfl, ?_⟩) hHeld ?_ ?_
    rotate_left
    · rintro w' ⟨s0, s1⟩
      go_simp
      with_reducible rfl
    rotate_left
    · simp only [Act.put, List.setIfInBounds_toArray, List.set_cons_zero, List.set_cons_succ, i64_w, i32_w]
      rfl
    refine pure_ (i := 11) (N := some 39) (v := ?_) (a' := ?_) #[true, true, true, true, true, true, true, true, true, true, true, true, false, false, false, false, false, false] rfl rfl (by kernel_rfl) (fun _ _ _ h => h) (Or.inl ⟨by rfl, ?_⟩) ?_ ?_
    rotate_left
    · intro w'
      go_simp
      with_reducible rfl
    rotate_left
    · simp only [Act.put, List.setIfInBounds_toArray, List.set_cons_zero, List.set_cons_succ, i64_w, i32_w]
      rfl
    refine pure_ (i := 12) (N := some 40) (v := ?_) (a' := ?_) #[true, true, true, true, true, true, true, true, true, true, true, true, true, false, false, false, false, false] rfl rfl (by kernel_rfl) (fun _ _ _ h => h) (Or.inl ⟨by rfl, ?_⟩) ?_ ?_
    rotate_left
    · intro w'
      go_simp
      with_reducible rfl
    rotate_left
    · simp only [Act.put, List.setIfInBounds_toArray, List.set_cons_zero, List.set_cons_succ, i64_w, i32_w]
      rfl
    refine one_ (i := 13) (N := some 41) #[true, true, true, true, true, true, true, true, true, true, true, true, true, true, false, false, false, false] rfl rfl (by kernel_rfl) (by decide) (fun K hK => ?_)
    refine value_ (w1 := ?_) (v := ?_) (by rfl) rfl ?_ ?_
    rotate_left 2
    · go_simp
      constructor
      · rfl
      · rfl
    refine hK.out _ _ ⟨(((Turn.refl (fun _ => False) w3).drew.alloc _).cell c1 (fun x => x)), (((Turn.refl (fun _ => False) w3).drew.alloc _).cell c0 (fun x => x))⟩ (fun hHeld => ?_)
    clear hK K
    refine norm_ (a' := ?_) ?_ ?_
    rotate_left
    · show Act.put _ (some 41) _ = _
      simp only [Act.put, List.setIfInBounds_toArray, List.set_cons_zero, List.set_cons_succ, i64_w, i32_w]
      rfl
    refine one_ (i := 14) (N := some 42) #[true, true, true, true, true, true, true, true, true, true, true, true, true, true, true, false, false, false] rfl rfl (by kernel_rfl) (by decide) (fun K hK => ?_)
    have hO := (H3.out.row.keep (w1 := w3.drew) (fun _ _ => rfl)).R (ok := fun k => v.ownBlock = some k ∨ w3.heap.size ≤ k) (fun k hk => .inl hk)
    refine Kd.R_append_step (w0 := w3.drew) (W := w3.drew) k60 0 (by rfl) _ _ 38 60 (.agg #[(.int .i64 0), (.int .i64 0)]) 16 rfl Try.underlying38 info60' rfl (by decide) (by decide) v (outO r.L key) ⟨key, r.now + d⟩ _ (fun k => v.ownBlock = some k ∨ w3.heap.size ≤ k) (fun _ => False) rfl rfl (k60_mkM _ _ _ ⟨key, r.now + d⟩) (fun _ hk => hk.elim) (fun k hk => .inr hk) hO (Below.refl _ _) (Nat.zero_le _) (by have := HL3.out; omega) ?_
    intro v1 w4 hR4 _ hg4 hat4
    obtain ⟨A2, c2, rfl⟩ := Kd.R_slice hR4
    have hT4 : Turn (fun k => v.ownBlock = some k) w3 w4 := ((Turn.refl _ w3).drew).grown hg4 (fun k hk => .inl hk)
    have hX4 := RowX.of_R kE1 hR4
    have hb4 := hT4.blk H3.out.hb (fun e => H3.out.rh e)
    have z4 := fun j => blk_frozen hb4 j
    have HX4 := Aside0.mk hX4
    have HT4 := Aside0.mk hT4
    have HA4 := Aside0.mk hat4
    refine hK.out _ _ ⟨(hT4.cell c1 (fun e => H3.out.rh e)), (hT4.cell c0 (fun e => H3.out.rh e))⟩ (fun hHeld => ?_)
    clear hK K
    refine norm_ (a' := ?_) ?_ ?_
    rotate_left
    · show Act.put _ (some 42) _ = _
      simp only [Act.put, List.setIfInBounds_toArray, List.set_cons_zero, List.set_cons_succ, i64_w, i32_w]
      rfl
    refine pure_ (i := 15) (N := some 43) (v := ?_) (a' := ?_) #[true, true, true, true, true, true, true, true, true, true, true, true, true, true, true, true, false, false] rfl rfl (by kernel_rfl) (fun _ _ _ h => h) (Or.inl ⟨by rfl, ?_⟩) ?_ ?_
    rotate_left
    · intro w'
      go_simp
      with_reducible rfl
    rotate_left
    · simp only [Act.put, List.setIfInBounds_toArray, List.set_cons_zero, List.set_cons_succ, i64_w, i32_w]
      rfl
    refine pure_ (i := 16) (N := some 44) (v := ?_) (a' := ?_) #[true, true, true, true, true, true, true, true, true, true, true, true, true, true, true, true, true, false] rfl rfl (by kernel_rfl) (fun _ _ _ h => h) (Or.inl ⟨by rfl, ?_⟩) ?_ ?_
    rotate_left
    · intro w'
      go_simp
      with_reducible rfl
    rotate_left
    · simp only [Act.put, List.setIfInBounds_toArray, List.set_cons_zero, List.set_cons_succ, i64_w, i32_w]
      rfl
    refine last_ (i := 17) (N := none) #[true, true, true, true, true, true, true, true, true, true, true, true, true, true, true, true, true, true] rfl rfl (by kernel_rfl) (by decide) (fun K hK => ?_)
    refine skip_ (w1 := ?_) (by rfl) rfl ?_ ?_
    rotate_left
    · go_simp
      rfl
    refine hK.out _ _ ?_
    clear hK K
    refine done_ (by kernel_rfl) ?_
    have HB4 := Aside0.mk hb4
    go_wp2_with fail
    go_ret
    have hl1 : (outO r.L key).length + 1 = (outO r.L key ++ [(⟨key, r.now + d⟩ : One1)]).length := by simp
    rw [hl1]
    refine ⟨rfl, fun k => k < w4.heap.size ∧ (S3 k ∨ w3.heap.size ≤ k), ⟨_, ref_store HB4.out HX4.out (fun k hk => ⟨HX4.out.lt hk, ?_⟩) ⟨Nat.lt_of_lt_of_le (H3.out.lt h H3.out.sh) HT4.out.size, .inl H3.out.sh⟩ (fun k hk => hk.1)⟩, ?_, fun k hk => ?_⟩
    · rcases HA4.out with h | ⟨b, hb, hl⟩
      · exact .inl (H3.out.sr k (by rw [← h]; exact hk))
      · rw [hb] at hk
        cases hk
        exact .inr hl
    · exact (HT3.out.trans HT4.out (fun k hk => HS3.out k (H3.out.sr k hk))).trans ((Turn.refl (fun k => k = h) w4).setCell (.inl rfl) _) (fun k hk => hk ▸ HS3.out h H3.out.sh)
    · rcases hk.2 with q | q
      · exact HS3.out k q
      · exact .inr (Nat.le_trans HT3.out.size q)
def dueO (L : List One1) (t : Int) : List Int := (L.filter (fun x => x.f1 == t)).map (·.f0)
def restO (L : List One1) (t : Int) : List One1 := L.filter (fun x => !(x.f1 == t))
theorem dueO_take {L : List One1} {n : Nat} {x : One1} (hx : L[n]? = some x) (t : Int) : dueO (L.take (n + 1)) t = dueO (L.take n) t ++ (if x.f1 = t then [x.f0] else []) := by
  unfold dueO
  rw [List.take_add_one, hx, List.filter_append, List.map_append]
  congr 1
  by_cases h : x.f1 = t
  · rw [if_pos h]
    simp [h]
  · rw [if_neg h]
    simp [h]
theorem restO_take {L : List One1} {n : Nat} {x : One1} (hx : L[n]? = some x) (t : Int) : restO (L.take (n + 1)) t = restO (L.take n) t ++ (if x.f1 = t then [] else [x]) := by
  unfold restO
  rw [List.take_add_one, hx, List.filter_append]
  congr 1
  by_cases h : x.f1 = t
  · rw [if_pos h]
    simp [h]
  · rw [if_neg h]
    simp [h]
theorem dueO_len (L : List One1) (n : Nat) (t : Int) : (dueO (L.take n) t).length ≤ L.length := by
  unfold dueO
  rw [List.length_map]
  exact Nat.le_trans (List.length_filter_le _ _) (List.length_take_le' n L)
theorem restO_len (L : List One1) (n : Nat) (t : Int) : (restO (L.take n) t).length ≤ L.length := by
  unfold restO
  exact Nat.le_trans (List.length_filter_le _ _) (List.length_take_le' n L)
set_option maxHeartbeats 8000000 in
set_option maxRecDepth 100000 in
theorem ref_Tick {w : World} {h : Nat} {r : RCv} {S : Nat → Prop} (n0 : 0 ≤ r.now) (n1 : r.now ≤ 1125899906842624) (hl : r.L.length ≤ 1000000) (H : IsRef h r w S) :
    Calls Try.prog 18 #[.pointer (some ⟨h, 0, none⟩)] w fun e w' => ∃ v, e = .returned v ∧ RowX (Kd.int .i64) 3 w' v (dueO r.L (r.now + 1)) ∧ (∀ k, v.ownBlock = some k → w.heap.size ≤ k ∧ k < w'.heap.size) ∧ (∃ S', IsRef h ⟨r.now + 1, restO r.L (r.now + 1)⟩ w' S' ∧ (∀ k, S' k → S k ∨ w.heap.size ≤ k) ∧ ∀ k, v.ownBlock = some k → ¬ S' k) ∧ Turn S w w' := by
  obtain ⟨v, H⟩ := H
  have c0 := H.c0
  have z := fun j => blk_frozen H.hb j
  have hw1 : wrap64 (r.now + 1) = r.now + 1 := w64_small _ (by omega) (by omega)
  have HI := Aside0.mk H
  have HL := Aside0.mk hl
  clear H hl n0 n1
  obtain ⟨T, hT⟩ : ∃ T, T = r.now + 1 := ⟨_, rfl⟩
  rw [← hT] at hw1 ⊢
  have HTn := Aside0.mk hT
  clear hT
  go_enter Try.func18, Try.ntmps18
  go_upto_region 2 with (fail)
  rw [← HTn.out, hw1]
  have tset : Turn (fun k => k = h) w (w.setCell ⟨h, 0, none⟩ (.int .i64 T)) := (Turn.refl (fun k => k = h) _).setCell (.inl rfl) _
  refine wp_world (fun W => RefI W h v ⟨T, r.L⟩ S ∧ Turn S w W) ⟨HI.out.now_set T, tset.mono (fun k hk => hk ▸ HI.out.sh)⟩ ?_
  clear c0 z hw1 tset
  rintro W1 ⟨hI1, hT1⟩
  have H1 := Aside0.mk hI1
  have HT1 := Aside0.mk hT1
  clear hI1 hT1
  go_wp2_with fail
  go_loopw [3, 4, 5] (fun v3 v4 y wr => ∃ n : Nat, n ≤ r.L.length ∧ y = .int .i64 n ∧ Aside0 (RowX (Kd.int .i64) 3 wr v3 (dueO (r.L.take n) T) ∧ RowX k60 60 wr v4 (restO (r.L.take n) T) ∧ (∀ k, v3.ownBlock = some k → W1.heap.size ≤ k) ∧ (∀ k, v4.ownBlock = some k → W1.heap.size ≤ k) ∧ RefI wr h v ⟨T, r.L⟩ S ∧ Turn (fun _ => False) W1 wr)) (fun _ _ y _ => r.L.length + 1 - (intOf y).toNat)
  case atStart => exact ⟨0, by omega, rfl, ⟨RowX.nil _ _ _, RowX.nil _ _ _, fun k hk => by simp [Value.ownBlock] at hk, fun k hk => by simp [Value.ownBlock] at hk, H1.out, Turn.refl _ _⟩⟩
  case round =>
    obtain ⟨n, hn, rfl, HQ⟩ := hrel
    have c1 := HQ.out.2.2.2.2.1.c1
    have c0 := HQ.out.2.2.2.2.1.c0
    have z := fun j => blk_frozen HQ.out.2.2.2.2.1.hb j
    by_cases hnl : n < r.L.length
    · have d1 : decide ((n : Int) < (r.L.length : Int)) = true := decide_eq_true (by omega)
      obtain ⟨x, hx⟩ : ∃ x, r.L[n]? = some x := ⟨_, List.getElem?_eq_getElem hnl⟩
      obtain ⟨b, c', e1, hc, hC, k0, k1⟩ := at1 HQ.out.2.2.2.2.1.row n hx
      have HV := Aside0.mk e1
      rw [e1] at c1
      have j1 : (n : Int) < (r.L.length : Int) := by omega
      have HD := Aside0.mk (dueO_take hx T)
      have HR := Aside0.mk (restO_take hx T)
      have HW := Aside0.mk (show wrap64 ((n : Int) + 1) = ((n + 1 : Nat) : Int) from wrap_succ n (by have := HL.out; omega))
      have HM := Aside0.mk (meas_succ hnl (by have := HL.out; omega))
      clear e1 hx hC hc
      go_upto_region 7 with (fail)
      refine start_ (n := 13) (S := fun w' => w'.cell? ⟨h, 1, none⟩ = some (.slice (some ⟨b, 0, none⟩) r.L.length c') ∧ w'.cell? ⟨h, 0, none⟩ = some (.int .i64 T) ∧ w'.cell? ⟨b, n * 2 + 1, none⟩ = some (.int .i64 x.f1)) (ds := []) #[false, false, false, false, false, false, false, false, false, false, false, false, false] (by kernel_rfl) rfl rfl ⟨c1, c0, k1⟩ (fun hHeld => ?_)
      refine pure_ (i := 0) (N := some 23) (v := ?_) (a' := ?_) #[true, false, false, false, false, false, false, false, false, false, false, false, false] rfl rfl (by kernel_rfl) (fun _ _ _ h => h) (Or.inl ⟨by rfl, ?_⟩) ?_ ?_
      rotate_left
      · intro w'
        go_simp
        with_reducible rfl
      rotate_left
      · simp only [Act.put, List.setIfInBounds_toArray, List.set_cons_zero, List.set_cons_succ, i64_w, i32_w]
        rfl
      refine pure_ (i := 1) (N := some 24) (v := ?_) (a' := ?_) #[true, true, false, false, false, false, false, false, false, false, false, false, false] rfl rfl (by kernel_rfl) (fun _ _ _ h => h) (Or.inl ⟨by rfl, ?_⟩) ?_ ?_
      rotate_left
      · intro w'
        go_simp
        with_reducible rfl
      rotate_left
      · simp only [Act.put, List.setIfInBounds_toArray, List.set_cons_zero, List.set_cons_succ, i64_w, i32_w]
        rfl
      refine pure_ (i := 2) (N := some 25) (v := ?_) (a' := ?_) #[true, true, true, false, false, false, false, false, false, false, false, false, false] rfl rfl (by kernel_rfl) (fun _ _ _ h => h) (Or.inl ⟨by rfl, ?_⟩) ?_ ?_
      rotate_left
      · intro w'
        go_simp
        with_reducible rfl
      rotate_left
      · simp only [Act.put, List.setIfInBounds_toArray, List.set_cons_zero, List.set_cons_succ, i64_w, i32_w]
        rfl
      refine pure_ (i := 4) (N := some 27) (v := ?_) (a' := ?_) #[true, true, true, false, true, false, false, false, false, false, false, false, false] rfl rfl (by kernel_rfl) (fun _ _ _ h => h) (Or.inl ⟨by rfl, ?_⟩) ?_ ?_
      rotate_left
      · intro w'
        go_simp
        with_reducible rfl
      rotate_left
      · simp only [Act.put, List.setIfInBounds_toArray, List.set_cons_zero, List.set_cons_succ, i64_w, i32_w]
        rfl
      refine pure_ (i := 8) (N := some 31) (v := ?_) (a' := ?_) #[true, true, true, false, true, false, false, false, true, false, false, false, false] rfl rfl (by kernel_rfl) (fun _ _ _ h => h) (Or.inl ⟨by rfl, ?_⟩) ?_ ?_
      rotate_left
      · intro w'
        go_simp
        with_reducible rfl
      rotate_left
      · simp only [Act.put, List.setIfInBounds_toArray, List.set_cons_zero, List.set_cons_succ, i64_w, i32_w]
        rfl
      refine pure_ (i := 9) (N := some 32) (v := ?_) (a' := ?_) #[true, true, true, false, true, false, false, false, true, true, false, false, false] rfl rfl (by kernel_rfl) (fun _ _ _ h => h) (Or.inl ⟨by rfl, ?_⟩) ?_ ?_
      rotate_left
      · intro w'
        go_simp
        with_reducible rfl
      rotate_left
      · simp only [Act.put, List.setIfInBounds_toArray, List.set_cons_zero, List.set_cons_succ, i64_w, i32_w]
        rfl
      refine pure_ (i := 10) (N := some 33) (v := ?_) (a' := ?_) #[true, true, true, false, true, false, false, false, true, true, true, false, false] rfl rfl (by kernel_rfl) (fun _ _ _ h => h) (Or.inl ⟨by rfl, ?_⟩) ?_ ?_
      rotate_left
      · intro w'
        go_simp
        with_reducible rfl
      rotate_left
      · simp only [Act.put, List.setIfInBounds_toArray, List.set_cons_zero, List.set_cons_succ, i64_w, i32_w]
        rfl
      refine take_ (i := 3) (N := some 26) (v := ?_) (a' := ?_) #[true, true, true, true, true, false, false, false, true, true, true, false, false] rfl rfl (by kernel_rfl) (fun _ _ _ h => h) (Or.inl ⟨by rfl, ?_⟩) hHeld ?_ ?_
      rotate_left
      · rintro w' ⟨s0, s1, s2⟩
        go_simp
        with_reducible rfl
      rotate_left
      · simp only [Act.put, List.setIfInBounds_toArray, List.set_cons_zero, List.set_cons_succ, i64_w, i32_w]
        rfl
      refine pure_ (i := 5) (N := some 28) (v := ?_) (a' := ?_) #[true, true, true, true, true, true, false, false, true, true, true, false, false] rfl rfl (by kernel_rfl) (fun _ _ _ h => h) (Or.inl ⟨by rfl, ?_⟩) ?_ ?_
      rotate_left
      · intro w'
        go_simp
        with_reducible rfl
      rotate_left
      · simp only [Act.put, List.setIfInBounds_toArray, List.set_cons_zero, List.set_cons_succ, i64_w, i32_w]
        rfl
      refine pure_ (i := 6) (N := some 29) (v := ?_) (a' := ?_) #[true, true, true, true, true, true, true, false, true, true, true, false, false] rfl rfl (by kernel_rfl) (fun _ _ _ h => h) (Or.inl ⟨by rfl, ?_⟩) ?_ ?_
      rotate_left
      · intro w'
        go_simp
        with_reducible rfl
      rotate_left
      · simp only [Act.put, List.setIfInBounds_toArray, List.set_cons_zero, List.set_cons_succ, i64_w, i32_w]
        rfl
      refine take_ (i := 7) (N := some 30) (v := ?_) (a' := ?_) #[true, true, true, true, true, true, true, true, true, true, true, false, false] rfl rfl (by kernel_rfl) (fun _ _ _ h => h) (Or.inl ⟨by rfl, ?_⟩) hHeld ?_ ?_
      rotate_left
      · rintro w' ⟨s0, s1, s2⟩
        go_simp
        with_reducible rfl
      rotate_left
      · simp only [Act.put, List.setIfInBounds_toArray, List.set_cons_zero, List.set_cons_succ, i64_w, i32_w]
        rfl
      refine take_ (i := 11) (N := some 34) (v := ?_) (a' := ?_) #[true, true, true, true, true, true, true, true, true, true, true, true, false] rfl rfl (by kernel_rfl) (fun _ _ _ h => h) (Or.inl ⟨by rfl, ?_⟩) hHeld ?_ ?_
      rotate_left
      · rintro w' ⟨s0, s1, s2⟩
        go_simp
        with_reducible rfl
      rotate_left
      · simp only [Act.put, List.setIfInBounds_toArray, List.set_cons_zero, List.set_cons_succ, i64_w, i32_w]
        rfl
      refine pure_ (i := 12) (N := some 35) (v := ?_) (a' := ?_) #[true, true, true, true, true, true, true, true, true, true, true, true, true] rfl rfl (by kernel_rfl) (fun _ _ _ h => h) (Or.inl ⟨by rfl, ?_⟩) ?_ ?_
      rotate_left
      · intro w'
        go_simp
        with_reducible rfl
      rotate_left
      · simp only [Act.put, List.setIfInBounds_toArray, List.set_cons_zero, List.set_cons_succ, i64_w, i32_w]
        rfl
      refine done_ (by kernel_rfl) ?_
      have k0' : wr.drew.cell? ⟨b, n * 2, none⟩ = some (.int .i64 x.f0) := k0
      have HX3 := Aside0.mk (HQ.out.1.keep (w1 := wr.drew) (fun _ _ => rfl))
      have HX4 := Aside0.mk (HQ.out.2.1.keep (w1 := wr.drew) (fun _ _ => rfl))
      have HI2 := Aside0.mk (HQ.out.2.2.2.2.1.turn ((Turn.refl (fun _ => False) wr).drew) (fun _ _ x => x))
      have HT2 := Aside0.mk (HQ.out.2.2.2.2.2.drew)
      have HN3 := Aside0.mk HQ.out.2.2.1
      have HN4 := Aside0.mk HQ.out.2.2.2.1
      clear HQ k0 c0 c1 k1 z
      generalize wr.drew = W2 at *
      obtain ⟨c1, c0, k1⟩ := hHeld
      by_cases he : x.f1 = T
      · have d2 : (x.f1 == T) = true := beq_iff_eq.mpr he
        have HDn := Aside0.mk (show dueO (r.L.take (n + 1)) T = dueO (r.L.take n) T ++ [x.f0] by rw [HD.out, if_pos he])
        have HRn := Aside0.mk (show restO (r.L.take (n + 1)) T = restO (r.L.take n) T by rw [HR.out, if_pos he, List.append_nil])
        clear he
        go_wp2_with (at_builtin; go_loud (refine Kd.R_append (Kd.int .i64) (W := W2) (w0 := W2) 0 rfl (.tmp 36) (.tmp 45) 27 3 (.int .i64 0) 8 rfl Try.underlying27 info3r rfl (by decide) (by decide) u3 (dueO (r.L.take n) T) x.f0 _ (fun x => u3.ownBlock = some x ∨ W2.heap.size ≤ x) (fun _ => False) rfl rfl rfl (fun _ hk => hk.elim) (fun x hx => .inr hx) (HX3.out.R (fun x hx => .inl hx)) (Below.refl _ _) (Nat.zero_le _) (by have := dueO_len r.L n T; have := HL.out; omega) ?_))
        intro v8 w8 hR hB hg hat
        have T8 : Turn (fun k => u3.ownBlock = some k) W2 w8 := (Turn.refl _ W2).grown hg (fun k hk => .inl hk)
        have HR9 := Aside0.mk (show RowX (Kd.int .i64) 3 w8 v8 (dueO (r.L.take (n + 1)) T) by rw [HDn.out]; exact RowX.of_R rfl hR)
        have HO9 := Aside0.mk (show RowX k60 60 w8 u4 (restO (r.L.take (n + 1)) T) by
          rw [HRn.out]
          exact HX4.out.turn T8 (fun k hk h3 => by
            obtain ⟨cs, hcs⟩ := HX3.out.typed h3
            exact HX4.out.ne_cells hcs (by decide) hk))
        have HI9 := Aside0.mk (HI2.out.turn T8 (fun k hk h3 => by have h1 := H1.out.lt k hk; have h2 := HN3.out k h3; omega))
        have HT9 := Aside0.mk (HT2.out.trans T8 (fun k hk => .inr (HN3.out k hk)))
        have HN9 := Aside0.mk (show ∀ k, v8.ownBlock = some k → W1.heap.size ≤ k from fun k hk => by
          rcases hat with h | ⟨b, hb, hl⟩
          · exact HN3.out k (by rw [← h]; exact hk)
          · rw [hb] at hk
            cases hk
            exact Nat.le_trans HT2.out.size hl)
        clear hR hB hg hat T8
        go_wp2_with fail
        exact ⟨⟨n + 1, by omega, congrArg _ HW.out, ⟨HR9.out, HO9.out, HN9.out, HN4.out, HI9.out, HT9.out⟩⟩, HM.out⟩
      · have d2 : (x.f1 == T) = false := beq_eq_false_iff_ne.mpr he
        have HDn := Aside0.mk (show dueO (r.L.take (n + 1)) T = dueO (r.L.take n) T by rw [HD.out, if_neg he, List.append_nil])
        have HRn := Aside0.mk (show restO (r.L.take (n + 1)) T = restO (r.L.take n) T ++ [x] by rw [HR.out, if_neg he])
        have hu := Try.underlying60
        clear he
        go_wp2_with (at_builtin; go_loud (refine Kd.R_append k60 (W := W2) (w0 := W2) 0 rfl (.tmp 47) (.tmp 55) 38 60 (.agg #[(.int .i64 0), (.int .i64 0)]) 16 rfl Try.underlying38 info60' rfl (by decide) (by decide) u4 (restO (r.L.take n) T) x _ (fun x => u4.ownBlock = some x ∨ W2.heap.size ≤ x) (fun _ => False) rfl rfl (k60_mkM _ _ _ x) (fun _ hk => hk.elim) (fun x hx => .inr hx) (HX4.out.R (fun x hx => .inl hx)) (Below.refl _ _) (Nat.zero_le _) (by have := restO_len r.L n T; have := HL.out; omega) ?_))
        intro v8 w8 hR hB hg hat
        have T8 : Turn (fun k => u4.ownBlock = some k) W2 w8 := (Turn.refl _ W2).grown hg (fun k hk => .inl hk)
        have HR9 := Aside0.mk (show RowX k60 60 w8 v8 (restO (r.L.take (n + 1)) T) by rw [HRn.out]; exact RowX.of_R kE1 hR)
        have HO9 := Aside0.mk (show RowX (Kd.int .i64) 3 w8 u3 (dueO (r.L.take (n + 1)) T) by
          rw [HDn.out]
          exact HX3.out.turn T8 (fun k hk h4 => by
            obtain ⟨cs, hcs⟩ := HX4.out.typed h4
            exact HX3.out.ne_cells hcs (by decide) hk))
        have HI9 := Aside0.mk (HI2.out.turn T8 (fun k hk h3 => by have h1 := H1.out.lt k hk; have h2 := HN4.out k h3; omega))
        have HT9 := Aside0.mk (HT2.out.trans T8 (fun k hk => .inr (HN4.out k hk)))
        have HN9 := Aside0.mk (show ∀ k, v8.ownBlock = some k → W1.heap.size ≤ k from fun k hk => by
          rcases hat with h | ⟨b, hb, hl⟩
          · exact HN4.out k (by rw [← h]; exact hk)
          · rw [hb] at hk
            cases hk
            exact Nat.le_trans HT2.out.size hl)
        clear hR hB hg hat T8
        go_wp2_with fail
        exact ⟨⟨n + 1, by omega, congrArg _ HW.out, ⟨HO9.out, HR9.out, HN3.out, HN9.out, HI9.out, HT9.out⟩⟩, HM.out⟩
    · obtain rfl : n = r.L.length := by omega
      have d1 : decide ((r.L.length : Int) < (r.L.length : Int)) = false := decide_eq_false (by omega)
      obtain ⟨A, c', e1, _, _⟩ := HQ.out.2.2.2.2.1.row.reads
      rw [e1] at c1
      have hb := HQ.out.2.2.2.2.1.hb
      have HB := Aside0.mk hb
      have hq := HQ.out
      rw [List.take_length] at hq
      obtain ⟨h1, h2, q3, q4, _, q6⟩ := hq
      clear HQ e1 hb
      obtain ⟨A4, c4, rfl, _, _⟩ := h2.reads
      have G1 := Aside0.mk h1
      have G2 := Aside0.mk h2
      have G3 := Aside0.mk q3
      have G4 := Aside0.mk q4
      have G6 := Aside0.mk q6
      clear h1 h2 q3 q4 q6
      go_wp2_with fail
      go_ret
      have h1 := G1.out
      have h2 := G2.out
      have tset : Turn (fun k => k = h) wr (wr.setCell ⟨h, 1, none⟩ (.slice A4 (restO r.L T).length c4)) := (Turn.refl (fun k => k = h) _).setCell (.inl rfl) _
      have hSh := H1.out.lt h H1.out.sh
      have hst := ref_store (S2 := fun k => k < wr.heap.size ∧ (S k ∨ (Value.slice A4 (restO r.L T).length c4).ownBlock = some k)) HB.out h2 (fun k hk => ⟨h2.lt hk, .inr hk⟩) ⟨Nat.lt_of_lt_of_le hSh G6.out.size, .inl H1.out.sh⟩ (fun k hk => hk.1)
      have h1' := h1.turn tset (fun k hk e => h1.ne_cells HB.out (by decide) (by rw [hk, e]))
      refine ⟨u3, rfl, h1', fun k hk => ⟨Nat.le_trans HT1.out.size (G3.out k hk), h1'.lt hk⟩, ⟨_, ⟨_, hst⟩, fun k hk => ?_, fun k hk hk2 => ?_⟩, ?_⟩
      · rcases hk.2 with q | q
        · exact .inl q
        · exact .inr (Nat.le_trans HT1.out.size (G4.out k q))
      · rcases hk2.2 with q | q
        · have := H1.out.lt k q
          have := G3.out k hk
          omega
        · obtain ⟨cs, hcs⟩ := h2.typed q
          exact h1.ne_cells hcs (by decide) hk
      · exact (HT1.out.trans G6.out (fun k hk => hk.elim)).trans tset (fun k hk => .inl (hk ▸ H1.out.sh))
end Go.Proofs.Ytbmommikjiikaaa.P
