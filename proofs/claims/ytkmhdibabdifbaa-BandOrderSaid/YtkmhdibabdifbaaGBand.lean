/- Bands of packets: the methods of band.Queue, each what it answers and leaves; no conditions. -/
import Derived.Test.YtkmhdibabdifbaaGObj
import Derived.Test.YtkmhdibabdifbaaGResults
import Derived.Test.YtkmhdibabdifbaaGNum
import Derived.Test.YtkmhdibabdifbaaP0
import Derived.Test.YtkmhdibabdifbaaPbandwithin
namespace Go.Proofs.Ytkmhdibabdifbaa.P
open Go.RowKit Go.Maps Go.Proofs.YtkmhdibabdifbaaW.PrintWords Go.Proofs.YtkmhdibabdifbaaW.PrintLast Go.Proofs.YtkmhdibabdifbaaW.PrintMore
set_option linter.unusedVariables false
set_option linter.unusedSimpArgs false

abbrev Pk := S31
def pkV (p : Pk) : Value := .agg #[.int .i64 p.f0.f0, .int .i64 p.f0.f1, .int .i64 p.f0.f2, .string p.f0.f3, .int .i64 p.f1, .int .i64 p.f2, .bool p.f3]
def sl0 (v : Option Value) : Value := v.getD (.slice none 0 0)
structure BQ where
  rows : Int → List Pk
  bands : Int
  room : Int
  many : Int
  stopped : Bool
structure BandI (w : World) (g mb n : Nat) (f : Int → Option Value) (q : BQ) (S : Nat → Prop) : Prop where
  hb : w.heap[g]? = some (.cells #[.map (some mb), .int .i64 q.bands, .int .i64 q.room, .int .i64 q.many, .bool q.stopped] 58 (0, 0))
  map : MapI Try.prog 3 .i64 w mb n f
  row : ∀ i, RowX k31 31 w (sl0 (f i)) (q.rows i)
  apart : ∀ i j k, (sl0 (f i)).ownBlock = some k → (sl0 (f j)).ownBlock = some k → i = j
  sg : S g
  sm : S mb
  sr : ∀ i k, (sl0 (f i)).ownBlock = some k → S k
  lt : ∀ k, S k → k < w.heap.size
/-- A queue at g, of whose blocks are S. -/
def IsBand (w : World) (g n : Nat) (q : BQ) (S : Nat → Prop) : Prop := ∃ mb f, BandI w g mb n f q S
section
variable {w w1 : World} {g mb n : Nat} {f : Int → Option Value} {q : BQ} {S S2 : Nat → Prop}
theorem BandI.turn (h : BandI w g mb n f q S) (ht : Turn S2 w w1) (hd : ∀ k, S k → ¬ S2 k) : BandI w1 g mb n f q S :=
  ⟨ht.blk h.hb (hd g h.sg), h.map.turn ht (hd mb h.sm), fun i => (h.row i).turn ht (fun k hk => hd k (h.sr i k hk)), h.apart, h.sg, h.sm, h.sr, fun k hk => Nat.lt_of_lt_of_le (h.lt k hk) ht.size⟩
theorem IsBand.turn (h : IsBand w g n q S) (ht : Turn S2 w w1) (hd : ∀ k, S k → ¬ S2 k) : IsBand w1 g n q S := by
  obtain ⟨mb, f, h⟩ := h
  exact ⟨mb, f, h.turn ht hd⟩
theorem IsBand.lt (h : IsBand w g n q S) : ∀ k, S k → k < w.heap.size := by
  obtain ⟨mb, f, h⟩ := h
  exact h.lt
theorem IsBand.below (h : IsBand w g n q S) (hb : Below w.heap.size w w1) : IsBand w1 g n q S := h.turn (.of_below hb (fun _ => False)) (fun _ _ x => x)
theorem BandI.wider (h : BandI w g mb n f q S) (hs : ∀ k, S k → S2 k) (hl : ∀ k, S2 k → k < w.heap.size) : BandI w g mb n f q S2 := ⟨h.hb, h.map, h.row, h.apart, hs _ h.sg, hs _ h.sm, fun i k hk => hs _ (h.sr i k hk), hl⟩
theorem BandI.gm (h : BandI w g mb n f q S) : mb ≠ g := h.map.ne_cells h.hb
theorem BandI.rg (h : BandI w g mb n f q S) (i : Int) : (sl0 (f i)).ownBlock ≠ some g := (h.row i).ne_cells h.hb (by decide)
theorem BandI.rm (h : BandI w g mb n f q S) (i : Int) : (sl0 (f i)).ownBlock ≠ some mb := by
  obtain ⟨es, cl, hm⟩ := h.map.block
  exact (h.row i).ne_map hm
theorem BandI.c0 (h : BandI w g mb n f q S) : w.cell? ⟨g, 0, none⟩ = some (.map (some mb)) := (blk_cell h.hb 0).trans rfl
theorem BandI.c1 (h : BandI w g mb n f q S) : w.cell? ⟨g, 1, none⟩ = some (.int .i64 q.bands) := (blk_cell h.hb 1).trans rfl
theorem BandI.c2 (h : BandI w g mb n f q S) : w.cell? ⟨g, 2, none⟩ = some (.int .i64 q.room) := (blk_cell h.hb 2).trans rfl
theorem BandI.c3 (h : BandI w g mb n f q S) : w.cell? ⟨g, 3, none⟩ = some (.int .i64 q.many) := (blk_cell h.hb 3).trans rfl
theorem BandI.c4 (h : BandI w g mb n f q S) : w.cell? ⟨g, 4, none⟩ = some (.bool q.stopped) := (blk_cell h.hb 4).trans rfl
/-- One of the queue's own fields is written. -/
theorem BandI.set (h : BandI w g mb n f q S) (q' : BQ) (hr : q'.rows = q.rows) (hw : w1.heap[g]? = some (.cells #[.map (some mb), .int .i64 q'.bands, .int .i64 q'.room, .int .i64 q'.many, .bool q'.stopped] 58 (0, 0))) (ht : Turn (fun k => k = g) w w1) : BandI w1 g mb n f q' S :=
  ⟨hw, h.map.turn ht h.gm, fun i => by rw [hr]; exact (h.row i).turn ht (fun k hk e => h.rg i (by rw [← e]; exact hk)), h.apart, h.sg, h.sm, h.sr, fun k hk => Nat.lt_of_lt_of_le (h.lt k hk) ht.size⟩
end

set_option maxHeartbeats 4000000 in
set_option maxRecDepth 100000 in
theorem band_Stop {w : World} {g n : Nat} {q : BQ} {S : Nat → Prop} (h : IsBand w g n q S) :
    Calls Try.prog 14 #[.pointer (some ⟨g, 0, none⟩)] w fun e w' => e = .returned (.tuple #[]) ∧ IsBand w' g n { q with stopped := true } S ∧ Turn S w w' := by
  obtain ⟨mb, f, h⟩ := h
  have c4 := (blk_cell h.hb 4).trans rfl
  have z := fun j => blk_frozen h.hb j
  have H := Aside0.mk h
  clear h
  go_enter Try.func14, Try.ntmps14
  go_wp2
  go_end0
  have := blk_set H.out.hb 4 (.bool true)
  simp only [List.setIfInBounds_toArray, List.set_cons_zero, List.set_cons_succ] at this
  have ht : Turn (fun k => k = g) w (w.setCell ⟨g, 4, none⟩ (.bool true)) := (Turn.refl (fun k => k = g) _).setCell (.inl rfl) _
  exact ⟨rfl, ⟨mb, f, H.out.set { q with stopped := true } rfl this ht⟩, ht.mono (fun k hk => hk ▸ H.out.sg)⟩
set_option maxHeartbeats 4000000 in
set_option maxRecDepth 100000 in
theorem band_Wake {w : World} {g n : Nat} {q : BQ} {S : Nat → Prop} (h : IsBand w g n q S) :
    Calls Try.prog 15 #[.pointer (some ⟨g, 0, none⟩)] w fun e w' => e = .returned (.tuple #[]) ∧ IsBand w' g n { q with stopped := false } S ∧ Turn S w w' := by
  obtain ⟨mb, f, h⟩ := h
  have c4 := (blk_cell h.hb 4).trans rfl
  have z := fun j => blk_frozen h.hb j
  have H := Aside0.mk h
  clear h
  go_enter Try.func15, Try.ntmps15
  go_wp2
  go_end0
  have := blk_set H.out.hb 4 (.bool false)
  simp only [List.setIfInBounds_toArray, List.set_cons_zero, List.set_cons_succ] at this
  have ht : Turn (fun k => k = g) w (w.setCell ⟨g, 4, none⟩ (.bool false)) := (Turn.refl (fun k => k = g) _).setCell (.inl rfl) _
  exact ⟨rfl, ⟨mb, f, H.out.set { q with stopped := false } rfl this ht⟩, ht.mono (fun k hk => hk ▸ H.out.sg)⟩
set_option maxHeartbeats 4000000 in
set_option maxRecDepth 100000 in
theorem band_Stopped {w : World} {g n : Nat} {q : BQ} {S : Nat → Prop} (h : IsBand w g n q S) :
    Calls Try.prog 13 #[.pointer (some ⟨g, 0, none⟩)] w fun e w' => e = .returned (.bool q.stopped) ∧ w' = w := by
  obtain ⟨mb, f, h⟩ := h
  have c4 := (blk_cell h.hb 4).trans rfl
  clear h
  go_enter Try.func13, Try.ntmps13
  go_wp2
  go_ret
  exact ⟨rfl, rfl⟩
set_option maxHeartbeats 4000000 in
set_option maxRecDepth 100000 in
theorem band_Len {w : World} {g n : Nat} {q : BQ} {S : Nat → Prop} (h : IsBand w g n q S) :
    Calls Try.prog 16 #[.pointer (some ⟨g, 0, none⟩)] w fun e w' => e = .returned (.int .i64 q.many) ∧ w' = w := by
  obtain ⟨mb, f, h⟩ := h
  have c3 := (blk_cell h.hb 3).trans rfl
  clear h
  go_enter Try.func16, Try.ntmps16
  go_wp2
  go_ret
  exact ⟨rfl, rfl⟩

def clampR (n : Int) : Int := mn (mx n 1) 1000
set_option maxHeartbeats 4000000 in
set_option maxRecDepth 100000 in
theorem band_New (bands room : Int) (w : World) :
    Calls Try.prog 9 #[.int .i64 bands, .int .i64 room] w fun e w' => ∃ g S, e = .returned (.pointer (some ⟨g, 0, none⟩)) ∧ IsBand w' g 0 ⟨fun _ => [], clampR bands, clampR room, 0, false⟩ S ∧ (∀ k, S k → w.heap.size ≤ k) ∧ Below w.heap.size w w' := by
  have hu := Try.underlying58
  have hmm := @run_makeMap Try.prog
  go_enter Try.func9, Try.ntmps9
  go_wp2_with fail
  refine (band_within.calls bands _ _ rfl).mono ?_
  rintro e w1 ⟨rfl, hb1⟩
  have HB1 := Aside0.mk hb1
  clear hb1
  go_wp2_with fail
  refine (band_within.calls room _ _ rfl).mono ?_
  rintro e w2 ⟨rfl, hb2⟩
  have HB2 := Aside0.mk (HB1.out.trans (hb2.mono HB1.out.size))
  clear hb2 HB1
  go_wp2_with fail
  go_ret
  have hM := MapI.made w Try.prog 3 .i64
  have hb := HB2.out
  have hl := hM.lt
  have hT : Turn (fun _ => False) (w.alloc (.map #[] 0)) (w2.alloc (.cells #[.map (some w.heap.size), .int .i64 (clampR bands), .int .i64 (clampR room), .int .i64 0, .bool false] 58)) := (Turn.of_below hb _).alloc _
  have hs : w.heap.size < w2.heap.size := Nat.lt_of_lt_of_le hl hb.size
  refine ⟨w2.heap.size, fun k => k = w.heap.size ∨ k = w2.heap.size, rfl, ⟨w.heap.size, fun _ => none, blk_new _ _, hM.turn hT (fun x => x), fun i => RowX.nil _ _ _, fun i j k hk => by simp [sl0, Value.ownBlock] at hk, .inr rfl, .inl rfl, fun i k hk => by simp [sl0, Value.ownBlock] at hk, fun k hk => ?_⟩, fun k hk => ?_, ?_⟩
  · rw [alloc_size]
    omega
  · omega
  · exact ((((Turn.refl (fun _ => False) w).alloc (.map #[] 0)).step hb).alloc _).to_below

structure BOk (q : BQ) : Prop where
  b1 : 1 ≤ q.bands
  b2 : q.bands ≤ 1000
  m0 : 0 ≤ q.many
  m1 : q.many ≤ 1000000
  len : ∀ i, (q.rows i).length ≤ 1000000
def bandAt (q : BQ) (band : Int) : Int := mn (mx band 0) (q.bands - 1)
def putQ (q : BQ) (band : Int) (p : Pk) : BQ := { q with rows := fun j => if j = bandAt q band then q.rows j ++ [p] else q.rows j, many := q.many + 1 }
attribute [local go_sem] max2_int min2_int max_two min_two
theorem kE : (k31).E = [] := rfl
theorem BandI.put {W w3 w4 : World} {g mb n : Nat} {f : Int → Option Value} {q : BQ} {S : Nat → Prop} (h : BandI W g mb n f q S) {cl : Int} {p : Pk} {v1 : Value} {ok : Nat → Prop} (hR : (k31).R 31 w3 0 ok v1 (q.rows cl ++ [p]))
    (hg : W.grownBy w3 (sl0 (f cl)).ownBlock) (hat : v1.ownBlock = (sl0 (f cl)).ownBlock ∨ ∃ b, v1.ownBlock = some b ∧ W.heap.size ≤ b) (hM : MapI Try.prog 3 .i64 w4 mb (n + 1) (setM f cl (some v1))) (hT : w3.mapTurned w4 mb) :
    BandI w4 g mb (n + 1) (setM f cl (some v1)) { q with rows := fun j => if j = cl then q.rows j ++ [p] else q.rows j } (fun k => k < w4.heap.size ∧ (S k ∨ W.heap.size ≤ k)) ∧ Turn S W w4 := by
  have T1 : Turn (fun k => (sl0 (f cl)).ownBlock = some k) W w3 := (Turn.refl _ W).grown hg (fun k hk => .inl hk)
  have T2 : Turn (fun k => k = mb) w3 w4 := (Turn.refl _ w3).map hT (.inl rfl)
  have hX : RowX k31 31 w3 v1 (q.rows cl ++ [p]) := RowX.of_R kE hR
  obtain ⟨es, cm, hm0⟩ := h.map.block
  have hm3 := T1.blk hm0 (fun e => h.rm cl e)
  have hv1 : ∀ k, v1.ownBlock = some k → k ≠ mb := fun k hk e => hX.ne_map hm3 (by rw [hk, e])
  have e1 : sl0 (setM f cl (some v1) cl) = v1 := by rw [setM_same]; rfl
  have e2 : ∀ j, j ≠ cl → sl0 (setM f cl (some v1) j) = sl0 (f j) := fun j hj => by rw [setM_other f _ hj]
  have hlt : ∀ k, S k → k < w4.heap.size := fun k hk => Nat.lt_of_lt_of_le (h.lt k hk) (Nat.le_trans T1.size T2.size)
  have hown : ∀ k, v1.ownBlock = some k → S k ∨ W.heap.size ≤ k := by
    intro k hk
    rcases hat with hat | ⟨b, hb, hl⟩
    · exact .inl (h.sr cl k (by rw [← hat]; exact hk))
    · rw [hb] at hk
      cases hk
      exact .inr hl
  refine ⟨⟨?_, hM, fun i => ?_, fun i j k hi hj => ?_, ⟨hlt g h.sg, .inl h.sg⟩, ⟨hlt mb h.sm, .inl h.sm⟩, fun i k hk => ?_, fun k hk => hk.1⟩, ?_⟩
  · exact T2.blk (T1.blk h.hb (fun e => h.rg cl e)) (fun e => h.gm e.symm)
  · by_cases hi : i = cl
    · subst hi
      rw [e1]
      show RowX _ _ _ _ (if i = i then q.rows i ++ [p] else q.rows i)
      rw [if_pos rfl]
      exact hX.turn T2 hv1
    · rw [e2 i hi]
      show RowX _ _ _ _ (if i = cl then q.rows i ++ [p] else q.rows i)
      rw [if_neg hi]
      exact ((h.row i).turn T1 (fun k hk hk2 => hi (h.apart i cl k hk hk2))).turn T2 (fun k hk e => h.rm i (by rw [hk, e]))
  · have new : ∀ j k, j ≠ cl → v1.ownBlock = some k → (sl0 (f j)).ownBlock = some k → False := by
      intro j k hj hk hk2
      rcases hat with hat | ⟨b, hb, hl⟩
      · exact hj (h.apart j cl k hk2 (by rw [← hat]; exact hk))
      · rw [hb] at hk
        cases hk
        have := (h.row j).lt hk2
        omega
    by_cases hi' : i = cl
    · by_cases hj' : j = cl
      · rw [hi', hj']
      · rw [hi', e1] at hi
        rw [e2 j hj'] at hj
        exact absurd (new j k hj' hi hj) (fun x => x)
    · by_cases hj' : j = cl
      · rw [hj', e1] at hj
        rw [e2 i hi'] at hi
        exact absurd (new i k hi' hj hi) (fun x => x)
      · rw [e2 i hi'] at hi
        rw [e2 j hj'] at hj
        exact h.apart i j k hi hj
  · by_cases hi : i = cl
    · subst hi
      rw [e1] at hk
      exact ⟨Nat.lt_of_lt_of_le (hX.lt hk) T2.size, hown k hk⟩
    · rw [e2 i hi] at hk
      exact ⟨hlt k (h.sr i k hk), .inl (h.sr i k hk)⟩
  · exact (T1.mono (fun k hk => h.sr cl k hk)).trans T2 (fun k hk => .inl (by rw [hk]; exact h.sm))
theorem zero42 (w : World) : (zeroValue 42).run Try.prog w = .ok (.slice none 0 0) w := by kernel_rfl
set_option maxHeartbeats 8000000 in
set_option maxRecDepth 100000 in
theorem band_Put_yes {w : World} {g n : Nat} {q : BQ} {S : Nat → Prop} (band : Int) (p : Pk) (hn : n ≤ 1000000) (ok : BOk q) (hne : q.many ≠ q.room) (h : IsBand w g n q S) :
    Calls Try.prog 10 #[.pointer (some ⟨g, 0, none⟩), .int .i64 band, pkV p] w fun e w' => e = .returned (.int .i64 0) ∧ ∃ S', IsBand w' g (n + 1) (putQ q band p) S' ∧ Turn S w w' ∧ (∀ k, S' k → S k ∨ w.heap.size ≤ k) := by
  obtain ⟨mb, f, h⟩ := h
  have H := Aside0.mk h
  have hk := Aside0.mk ok
  have hb1 : wrap64 (q.bands - 1) = q.bands - 1 := w64_small _ (by have := ok.b1; omega) (by have := ok.b2; omega)
  have hm1 : wrap64 (q.many + 1) = q.many + 1 := w64_small _ (by have := ok.m0; omega) (by have := ok.m1; omega)
  have e1 : (q.many == q.room) = false := beq_eq_false_iff_ne.mpr hne
  clear h ok hne
  obtain ⟨cl, hcle⟩ : ∃ cl, cl = bandAt q band := ⟨_, rfl⟩
  have hcl : 0 ≤ cl ∧ cl < 1000 := by
    have := hk.out.b1
    have := hk.out.b2
    rw [hcle]
    unfold bandAt mn mx
    repeat' split
    all_goals omega
  have hwf : (Lit.int .i64 cl).wf = true := WalkArith.wf_i64 (by omega)
  unfold pkV putQ
  rw [← hcle]
  have HCL := Aside0.mk hcle
  have HWF := Aside0.mk hwf
  clear hcle hcl hwf
  go_enter Try.func10, Try.ntmps10
  go_upto_region 3 with (fail)
  obtain ⟨C, hC⟩ : ∃ C, C = w.heap.size := ⟨_, rfl⟩
  rw [← hC]
  refine wp_world (fun W => BandI W g mb n f q S ∧ W.heap[C]? = some (.cells #[.int .i64 p.f0.f0, .int .i64 p.f0.f1, .int .i64 p.f0.f2, .string p.f0.f3, .int .i64 p.f1, .int .i64 p.f2, .bool p.f3] 31 (0, 0)) ∧ Turn S w W) ⟨H.out.turn ((Turn.refl (fun _ => False) w).alloc _) (fun _ _ x => x), by rw [hC]; exact blk_new _ _, (Turn.refl S w).alloc _⟩ ?_
  rintro W1 ⟨h, hc, ht⟩
  have c3 := h.c3
  have c2 := h.c2
  have H1 := Aside0.mk h
  have HC := Aside0.mk hc
  have HT := Aside0.mk ht
  have HCs := Aside0.mk (show ∀ k, S k → k ≠ C from fun k hk e => by have := H.out.lt k hk; omega)
  clear h hc ht H hC
  refine start_ (n := 10) (S := fun w' => w'.cell? ⟨g, 3, none⟩ = some (.int .i64 q.many) ∧ w'.cell? ⟨g, 2, none⟩ = some (.int .i64 q.room)) (ds := []) #[false, false, false, false, false, false, false, false, false, false] (by kernel_rfl) rfl rfl ⟨c3, c2⟩ (fun hHeld => ?_)
  refine pure_ (i := 0) (N := some 11) (v := ?_) (a' := ?_) #[true, false, false, false, false, false, false, false, false, false] rfl rfl (by kernel_rfl) (fun _ _ _ h => h) (Or.inl ⟨by rfl, ?_⟩) ?_ ?_
  rotate_left
  · intro w'
    go_simp
    with_reducible rfl
  rotate_left
  · simp only [Act.put, List.setIfInBounds_toArray, List.set_cons_zero, List.set_cons_succ, i64_w, i32_w]
    rfl
  refine pure_ (i := 1) (N := some 12) (v := ?_) (a' := ?_) #[true, true, false, false, false, false, false, false, false, false] rfl rfl (by kernel_rfl) (fun _ _ _ h => h) (Or.inl ⟨by rfl, ?_⟩) ?_ ?_
  rotate_left
  · intro w'
    go_simp
    with_reducible rfl
  rotate_left
  · simp only [Act.put, List.setIfInBounds_toArray, List.set_cons_zero, List.set_cons_succ, i64_w, i32_w]
    rfl
  refine pure_ (i := 2) (N := some 13) (v := ?_) (a' := ?_) #[true, true, true, false, false, false, false, false, false, false] rfl rfl (by kernel_rfl) (fun _ _ _ h => h) (Or.inl ⟨by rfl, ?_⟩) ?_ ?_
  rotate_left
  · intro w'
    go_simp
    with_reducible rfl
  rotate_left
  · simp only [Act.put, List.setIfInBounds_toArray, List.set_cons_zero, List.set_cons_succ, i64_w, i32_w]
    rfl
  refine pure_ (i := 4) (N := some 15) (v := ?_) (a' := ?_) #[true, true, true, false, true, false, false, false, false, false] rfl rfl (by kernel_rfl) (fun _ _ _ h => h) (Or.inl ⟨by rfl, ?_⟩) ?_ ?_
  rotate_left
  · intro w'
    go_simp
    with_reducible rfl
  rotate_left
  · simp only [Act.put, List.setIfInBounds_toArray, List.set_cons_zero, List.set_cons_succ, i64_w, i32_w]
    rfl
  refine pure_ (i := 5) (N := some 16) (v := ?_) (a' := ?_) #[true, true, true, false, true, true, false, false, false, false] rfl rfl (by kernel_rfl) (fun _ _ _ h => h) (Or.inl ⟨by rfl, ?_⟩) ?_ ?_
  rotate_left
  · intro w'
    go_simp
    with_reducible rfl
  rotate_left
  · simp only [Act.put, List.setIfInBounds_toArray, List.set_cons_zero, List.set_cons_succ, i64_w, i32_w]
    rfl
  refine pure_ (i := 6) (N := some 17) (v := ?_) (a' := ?_) #[true, true, true, false, true, true, true, false, false, false] rfl rfl (by kernel_rfl) (fun _ _ _ h => h) (Or.inl ⟨by rfl, ?_⟩) ?_ ?_
  rotate_left
  · intro w'
    go_simp
    with_reducible rfl
  rotate_left
  · simp only [Act.put, List.setIfInBounds_toArray, List.set_cons_zero, List.set_cons_succ, i64_w, i32_w]
    rfl
  refine take_ (i := 3) (N := some 14) (v := ?_) (a' := ?_) #[true, true, true, true, true, true, true, false, false, false] rfl rfl (by kernel_rfl) (fun _ _ _ h => h) (Or.inl ⟨by rfl, ?_⟩) hHeld ?_ ?_
  rotate_left
  · rintro w' ⟨s0, s1⟩
    go_simp
    with_reducible rfl
  rotate_left
  · simp only [Act.put, List.setIfInBounds_toArray, List.set_cons_zero, List.set_cons_succ, i64_w, i32_w]
    rfl
  refine take_ (i := 7) (N := some 18) (v := ?_) (a' := ?_) #[true, true, true, true, true, true, true, true, false, false] rfl rfl (by kernel_rfl) (fun _ _ _ h => h) (Or.inl ⟨by rfl, ?_⟩) hHeld ?_ ?_
  rotate_left
  · rintro w' ⟨s0, s1⟩
    go_simp
    with_reducible rfl
  rotate_left
  · simp only [Act.put, List.setIfInBounds_toArray, List.set_cons_zero, List.set_cons_succ, i64_w, i32_w]
    rfl
  refine pure_ (i := 8) (N := some 19) (v := ?_) (a' := ?_) #[true, true, true, true, true, true, true, true, true, false] rfl rfl (by kernel_rfl) (fun _ _ _ h => h) (Or.inl ⟨by rfl, ?_⟩) ?_ ?_
  rotate_left
  · intro w'
    go_simp
    with_reducible rfl
  rotate_left
  · simp only [Act.put, List.setIfInBounds_toArray, List.set_cons_zero, List.set_cons_succ, i64_w, i32_w]
    rfl
  refine pure_ (i := 9) (N := some 10) (v := ?_) (a' := ?_) #[true, true, true, true, true, true, true, true, true, true] rfl rfl (by kernel_rfl) (fun _ _ _ h => h) (Or.inl ⟨by rfl, ?_⟩) ?_ ?_
  rotate_left
  · intro w'
    go_simp
    with_reducible rfl
  rotate_left
  · simp only [Act.put, List.setIfInBounds_toArray, List.set_cons_zero, List.set_cons_succ, i64_w, i32_w]
    rfl
  refine done_ (by kernel_rfl) ?_
  have c1 := H1.out.c1
  go_upto_region 6 with (fail)
  rw [show (if q.bands - 1 < if band < 0 then 0 else band then q.bands - 1 else if band < 0 then 0 else band) = cl from HCL.out.symm]
  have c0 := H1.out.c0
  have hL : ∀ w', Turn (fun _ => False) W1 w' → (Instr.lookup 55 (.map (some mb)) (.int .i64 cl) false).run Try.prog w' = .ok (sl0 (f cl)) w' := fun w' ht' => (H1.out.map.turn ht' (fun x => x)).look Try.underlying3 Try.underlying55 (zero42 _) HWF.out
  have HL := Aside0.mk hL
  have hc := HC.out
  clear hL
  refine start_ (n := 15) (S := fun w' => w'.cell? ⟨g, 0, none⟩ = some (.map (some mb)) ∧ (Instr.lookup 55 (.map (some mb)) (.int .i64 cl) false).run Try.prog w' = .ok (sl0 (f cl)) w' ∧ w'.cell? ⟨C, 0, none⟩ = some (.int .i64 p.f0.f0) ∧ w'.cell? ⟨C, 1, none⟩ = some (.int .i64 p.f0.f1) ∧ w'.cell? ⟨C, 2, none⟩ = some (.int .i64 p.f0.f2) ∧ w'.cell? ⟨C, 3, none⟩ = some (.string p.f0.f3) ∧ w'.cell? ⟨C, 4, none⟩ = some (.int .i64 p.f1) ∧ w'.cell? ⟨C, 5, none⟩ = some (.int .i64 p.f2) ∧ w'.cell? ⟨C, 6, none⟩ = some (.bool p.f3)) (ds := [14]) #[false, false, false, false, false, false, false, false, false, false, false, false, false, false, false] (by kernel_rfl) rfl rfl ⟨c0, HL.out _ (Turn.refl _ _).drew.drew, ((blk_cell hc 0).trans rfl), ((blk_cell hc 1).trans rfl), ((blk_cell hc 2).trans rfl), ((blk_cell hc 3).trans rfl), ((blk_cell hc 4).trans rfl), ((blk_cell hc 5).trans rfl), ((blk_cell hc 6).trans rfl)⟩ (fun hHeld => ?_)
  refine pure_ (i := 0) (N := some 28) (v := ?_) (a' := ?_) #[true, false, false, false, false, false, false, false, false, false, false, false, false, false, false] rfl rfl (by kernel_rfl) (fun _ _ _ h => h) (Or.inl ⟨by rfl, ?_⟩) ?_ ?_
  rotate_left
  · intro w'
    go_simp
    with_reducible rfl
  rotate_left
  · simp only [Act.put, List.setIfInBounds_toArray, List.set_cons_zero, List.set_cons_succ, i64_w, i32_w]
    rfl
  refine pure_ (i := 1) (N := some 29) (v := ?_) (a' := ?_) #[true, true, false, false, false, false, false, false, false, false, false, false, false, false, false] rfl rfl (by kernel_rfl) (fun _ _ _ h => h) (Or.inl ⟨by rfl, ?_⟩) ?_ ?_
  rotate_left
  · intro w'
    go_simp
    with_reducible rfl
  rotate_left
  · simp only [Act.put, List.setIfInBounds_toArray, List.set_cons_zero, List.set_cons_succ, i64_w, i32_w]
    rfl
  refine pure_ (i := 2) (N := some 30) (v := ?_) (a' := ?_) #[true, true, true, false, false, false, false, false, false, false, false, false, false, false, false] rfl rfl (by kernel_rfl) (fun _ _ _ h => h) (Or.inl ⟨by rfl, ?_⟩) ?_ ?_
  rotate_left
  · intro w'
    go_simp
    with_reducible rfl
  rotate_left
  · simp only [Act.put, List.setIfInBounds_toArray, List.set_cons_zero, List.set_cons_succ, i64_w, i32_w]
    rfl
  refine pure_ (i := 4) (N := some 32) (v := ?_) (a' := ?_) #[true, true, true, false, true, false, false, false, false, false, false, false, false, false, false] rfl rfl (by kernel_rfl) (fun _ _ _ h => h) (Or.inl ⟨by rfl, ?_⟩) ?_ ?_
  rotate_left
  · intro w'
    go_simp
    with_reducible rfl
  rotate_left
  · simp only [Act.put, List.setIfInBounds_toArray, List.set_cons_zero, List.set_cons_succ, i64_w, i32_w]
    rfl
  refine pure_ (i := 5) (N := some 33) (v := ?_) (a' := ?_) #[true, true, true, false, true, true, false, false, false, false, false, false, false, false, false] rfl rfl (by kernel_rfl) (fun _ _ _ h => h) (Or.inl ⟨by rfl, ?_⟩) ?_ ?_
  rotate_left
  · intro w'
    go_simp
    with_reducible rfl
  rotate_left
  · simp only [Act.put, List.setIfInBounds_toArray, List.set_cons_zero, List.set_cons_succ, i64_w, i32_w]
    rfl
  refine pure_ (i := 6) (N := some 34) (v := ?_) (a' := ?_) #[true, true, true, false, true, true, true, false, false, false, false, false, false, false, false] rfl rfl (by kernel_rfl) (fun _ _ _ h => h) (Or.inl ⟨by rfl, ?_⟩) ?_ ?_
  rotate_left
  · intro w'
    go_simp
    with_reducible rfl
  rotate_left
  · simp only [Act.put, List.setIfInBounds_toArray, List.set_cons_zero, List.set_cons_succ, i64_w, i32_w]
    rfl
  refine pure_ (i := 7) (N := some 35) (v := ?_) (a' := ?_) #[true, true, true, false, true, true, true, true, false, false, false, false, false, false, false] rfl rfl (by kernel_rfl) (fun _ _ _ h => h) (Or.inl ⟨by rfl, ?_⟩) ?_ ?_
  rotate_left
  · intro w'
    go_simp
    with_reducible rfl
  rotate_left
  · simp only [Act.put, List.setIfInBounds_toArray, List.set_cons_zero, List.set_cons_succ, i64_w, i32_w]
    rfl
  refine pure_ (i := 9) (N := some 37) (v := ?_) (a' := ?_) #[true, true, true, false, true, true, true, true, false, true, false, false, false, false, false] rfl rfl (by kernel_rfl) (fun _ _ _ h => h) (Or.inl ⟨by rfl, ?_⟩) ?_ ?_
  rotate_left
  · intro w'
    go_simp
    with_reducible rfl
  rotate_left
  · simp only [Act.put, List.setIfInBounds_toArray, List.set_cons_zero, List.set_cons_succ, i64_w, i32_w]
    rfl
  refine take_ (i := 3) (N := some 31) (v := ?_) (a' := ?_) #[true, true, true, true, true, true, true, true, false, true, false, false, false, false, false] rfl rfl (by kernel_rfl) (fun _ _ _ h => h) (Or.inl ⟨by rfl, ?_⟩) hHeld ?_ ?_
  rotate_left
  · rintro w' ⟨s0, s1, s2, s3, s4, s5, s6, s7, s8⟩
    go_simp
    with_reducible rfl
  rotate_left
  · simp only [Act.put, List.setIfInBounds_toArray, List.set_cons_zero, List.set_cons_succ, i64_w, i32_w]
    rfl
  refine take_ (i := 8) (N := some 36) (v := ?_) (a' := ?_) #[true, true, true, true, true, true, true, true, true, true, false, false, false, false, false] rfl rfl (by kernel_rfl) (fun _ _ _ h => h) (Or.inl ⟨by rfl, ?_⟩) hHeld ?_ ?_
  rotate_left
  · rintro w' ⟨s0, s1, s2, s3, s4, s5, s6, s7, s8⟩
    go_simp
    with_reducible rfl
  rotate_left
  · simp only [Act.put, List.setIfInBounds_toArray, List.set_cons_zero, List.set_cons_succ, i64_w, i32_w]
    rfl
  refine take_ (i := 10) (N := some 38) (v := ?_) (a' := ?_) #[true, true, true, true, true, true, true, true, true, true, true, false, false, false, false] rfl rfl (by kernel_rfl) (fun _ _ _ h => h) (Or.inl ⟨by rfl, ?_⟩) hHeld ?_ ?_
  rotate_left
  · rintro w' ⟨s0, s1, s2, s3, s4, s5, s6, s7, s8⟩
    go_simp
    with_reducible rfl
  rotate_left
  · simp only [Act.put, List.setIfInBounds_toArray, List.set_cons_zero, List.set_cons_succ, i64_w, i32_w]
    rfl
  refine take_ (i := 11) (N := some 39) (v := ?_) (a' := ?_) #[true, true, true, true, true, true, true, true, true, true, true, true, false, false, false] rfl rfl (by kernel_rfl) (fun _ _ _ h => h) (Or.inl ⟨by rfl, ?_⟩) hHeld ?_ ?_
  rotate_left
  · rintro w' ⟨s0, s1, s2, s3, s4, s5, s6, s7, s8⟩
    go_simp
    with_reducible rfl
  rotate_left
  · simp only [Act.put, List.setIfInBounds_toArray, List.set_cons_zero, List.set_cons_succ, i64_w, i32_w]
    rfl
  refine one_ (i := 12) (N := some 40) #[true, true, true, true, true, true, true, true, true, true, true, true, true, false, false] rfl rfl (by kernel_rfl) (by decide) (fun K hK => ?_)
  refine value_ (w1 := ?_) (v := ?_) (by rfl) rfl ?_ ?_
  rotate_left 2
  · go_simp
    constructor
    · rfl
    · rfl
  have hcA := ((Turn.refl (fun _ => False) W1).drew.drew.alloc (.cells #[.int .i64 p.f0.f0, .int .i64 p.f0.f1, .int .i64 p.f0.f2, .string p.f0.f3, .int .i64 p.f1, .int .i64 p.f2, .bool p.f3] 31)).blk hc (fun x => x)
  refine hK.out _ _ ⟨(((Turn.refl (fun _ => False) W1).drew.drew.alloc _).cell c0 (fun x => x)), (HL.out _ ((Turn.refl _ _).drew.drew.alloc _)), ((blk_cell hcA 0).trans rfl), ((blk_cell hcA 1).trans rfl), ((blk_cell hcA 2).trans rfl), ((blk_cell hcA 3).trans rfl), ((blk_cell hcA 4).trans rfl), ((blk_cell hcA 5).trans rfl), ((blk_cell hcA 6).trans rfl)⟩ (fun hHeld => ?_)
  clear hK K
  refine norm_ (a' := ?_) ?_ ?_
  rotate_left
  · show Act.put _ (some 40) _ = _
    simp only [Act.put, List.setIfInBounds_toArray, List.set_cons_zero, List.set_cons_succ, i64_w, i32_w]
    rfl
  refine one_ (i := 13) (N := some 41) #[true, true, true, true, true, true, true, true, true, true, true, true, true, true, false] rfl rfl (by kernel_rfl) (by decide) (fun K hK => ?_)
  have hO := ((H1.out.row cl).keep (w1 := W1.drew.drew) (fun _ _ => rfl)).R (ok := fun k => S k ∨ W1.heap.size ≤ k) (fun k hk => .inl (H1.out.sr cl k hk))
  have hl1 := hk.out.len cl
  refine Kd.R_append_step (w0 := W1.drew.drew) (W := W1.drew.drew) k31 0 (by rfl) _ _ 42 31 (.agg #[(.int .i64 0), (.int .i64 0), (.int .i64 0), (.string ⟨#[]⟩), (.int .i64 0), (.int .i64 0), (.bool false)]) 64 rfl Try.underlying42 info31 rfl (by decide) (by decide) (sl0 (f cl)) (q.rows cl) p _ (fun k => S k ∨ W1.heap.size ≤ k) (fun _ => False) rfl rfl (k31_mkM _ _ _ p) (fun _ hk => hk.elim) (fun k hk => .inr hk) hO (Below.refl _ _) (Nat.zero_le _) (by omega) ?_
  intro v1 w3 hR3 _ hg3 hat3
  have hT3 : Turn (fun k => (sl0 (f cl)).ownBlock = some k) W1 w3 := ((Turn.refl _ W1).drew.drew).grown hg3 (fun k hk => .inl hk)
  have hCS : ¬ (sl0 (f cl)).ownBlock = some C := fun e => HCs.out C (H1.out.sr cl C e) rfl
  have hc3 := hT3.blk hc hCS
  have hM3 := H1.out.map.turn hT3 (fun e => H1.out.rm cl e)
  refine hK.out _ _ ⟨(hT3.cell c0 (fun e => H1.out.rg cl e)), (hM3.look Try.underlying3 Try.underlying55 (zero42 _) HWF.out), ((blk_cell hc3 0).trans rfl), ((blk_cell hc3 1).trans rfl), ((blk_cell hc3 2).trans rfl), ((blk_cell hc3 3).trans rfl), ((blk_cell hc3 4).trans rfl), ((blk_cell hc3 5).trans rfl), ((blk_cell hc3 6).trans rfl)⟩ (fun hHeld => ?_)
  clear hK K
  refine norm_ (a' := ?_) ?_ ?_
  rotate_left
  · show Act.put _ (some 41) _ = _
    simp only [Act.put, List.setIfInBounds_toArray, List.set_cons_zero, List.set_cons_succ, i64_w, i32_w]
    rfl
  refine last_ (i := 14) (N := none) #[true, true, true, true, true, true, true, true, true, true, true, true, true, true, true] rfl rfl (by kernel_rfl) (by decide) (fun K hK => ?_)
  obtain ⟨w4, hrun, hM4, hT4⟩ := hM3.store Try.underlying3 Try.underlying55 (by unfold maxLen; omega) HWF.out v1
  have hP := Aside0.mk (H1.out.put hR3 ⟨hg3.os, hg3.tape, hg3.output, hg3.size, hg3.block⟩ hat3 hM4 hT4)
  refine skip_ (w1 := w4) (by rfl) rfl ?_ ?_
  · go_simp
  refine hK.out _ _ ?_
  clear hK K
  refine done_ (by kernel_rfl) ?_
  have hP1 := hP.out.1
  have k3 := hP1.c3
  have z := fun j => blk_frozen hP1.hb j
  clear hP1
  go_wp2_with fail
  all_goals
    go_ret
    have hP1 := hP.out.1
    have hs := blk_set hP1.hb 3 (.int .i64 (q.many + 1))
    simp only [List.setIfInBounds_toArray, List.set_cons_zero, List.set_cons_succ] at hs
    have ht : Turn (fun k => k = g) w4 (w4.setCell ⟨g, 3, none⟩ (.int .i64 (q.many + 1))) := (Turn.refl (fun k => k = g) _).setCell (.inl rfl) _
    refine ⟨rfl, _, ⟨mb, _, hP1.set ⟨_, q.bands, q.room, q.many + 1, q.stopped⟩ rfl hs ht⟩, ?_, fun k hk => ?_⟩
    · exact (HT.out.then_ hP.out.2).trans ht (fun k hk => .inl (hk ▸ H1.out.sg))
    · rcases hk.2 with h | h
      · exact .inl h
      · exact .inr (Nat.le_trans HT.out.size h)
set_option maxHeartbeats 8000000 in
set_option maxRecDepth 100000 in
theorem band_Put_full {w : World} {g n : Nat} {q : BQ} {S : Nat → Prop} (band : Int) (p : Pk) (hne : q.many = q.room) (h : IsBand w g n q S) :
    Calls Try.prog 10 #[.pointer (some ⟨g, 0, none⟩), .int .i64 band, pkV p] w fun e w' => e = .returned (.int .i64 5) ∧ IsBand w' g n q S ∧ Turn S w w' := by
  obtain ⟨mb, f, h⟩ := h
  have H := Aside0.mk h
  have e1 : (q.many == q.room) = true := beq_iff_eq.mpr hne
  clear h hne
  unfold pkV
  go_enter Try.func10, Try.ntmps10
  go_upto_region 3 with (fail)
  refine wp_world (fun W => BandI W g mb n f q S ∧ Turn S w W) ⟨H.out.turn ((Turn.refl (fun _ => False) w).alloc _) (fun _ _ x => x), (Turn.refl S w).alloc _⟩ ?_
  rintro W1 ⟨h, ht⟩
  have c3 := h.c3
  have c2 := h.c2
  have H1 := Aside0.mk h
  have HT := Aside0.mk ht
  clear h ht H
  refine start_ (n := 10) (S := fun w' => w'.cell? ⟨g, 3, none⟩ = some (.int .i64 q.many) ∧ w'.cell? ⟨g, 2, none⟩ = some (.int .i64 q.room)) (ds := []) #[false, false, false, false, false, false, false, false, false, false] (by kernel_rfl) rfl rfl ⟨c3, c2⟩ (fun hHeld => ?_)
  refine pure_ (i := 0) (N := some 11) (v := ?_) (a' := ?_) #[true, false, false, false, false, false, false, false, false, false] rfl rfl (by kernel_rfl) (fun _ _ _ h => h) (Or.inl ⟨by rfl, ?_⟩) ?_ ?_
  rotate_left
  · intro w'
    go_simp
    with_reducible rfl
  rotate_left
  · simp only [Act.put, List.setIfInBounds_toArray, List.set_cons_zero, List.set_cons_succ, i64_w, i32_w]
    rfl
  refine pure_ (i := 1) (N := some 12) (v := ?_) (a' := ?_) #[true, true, false, false, false, false, false, false, false, false] rfl rfl (by kernel_rfl) (fun _ _ _ h => h) (Or.inl ⟨by rfl, ?_⟩) ?_ ?_
  rotate_left
  · intro w'
    go_simp
    with_reducible rfl
  rotate_left
  · simp only [Act.put, List.setIfInBounds_toArray, List.set_cons_zero, List.set_cons_succ, i64_w, i32_w]
    rfl
  refine pure_ (i := 2) (N := some 13) (v := ?_) (a' := ?_) #[true, true, true, false, false, false, false, false, false, false] rfl rfl (by kernel_rfl) (fun _ _ _ h => h) (Or.inl ⟨by rfl, ?_⟩) ?_ ?_
  rotate_left
  · intro w'
    go_simp
    with_reducible rfl
  rotate_left
  · simp only [Act.put, List.setIfInBounds_toArray, List.set_cons_zero, List.set_cons_succ, i64_w, i32_w]
    rfl
  refine pure_ (i := 4) (N := some 15) (v := ?_) (a' := ?_) #[true, true, true, false, true, false, false, false, false, false] rfl rfl (by kernel_rfl) (fun _ _ _ h => h) (Or.inl ⟨by rfl, ?_⟩) ?_ ?_
  rotate_left
  · intro w'
    go_simp
    with_reducible rfl
  rotate_left
  · simp only [Act.put, List.setIfInBounds_toArray, List.set_cons_zero, List.set_cons_succ, i64_w, i32_w]
    rfl
  refine pure_ (i := 5) (N := some 16) (v := ?_) (a' := ?_) #[true, true, true, false, true, true, false, false, false, false] rfl rfl (by kernel_rfl) (fun _ _ _ h => h) (Or.inl ⟨by rfl, ?_⟩) ?_ ?_
  rotate_left
  · intro w'
    go_simp
    with_reducible rfl
  rotate_left
  · simp only [Act.put, List.setIfInBounds_toArray, List.set_cons_zero, List.set_cons_succ, i64_w, i32_w]
    rfl
  refine pure_ (i := 6) (N := some 17) (v := ?_) (a' := ?_) #[true, true, true, false, true, true, true, false, false, false] rfl rfl (by kernel_rfl) (fun _ _ _ h => h) (Or.inl ⟨by rfl, ?_⟩) ?_ ?_
  rotate_left
  · intro w'
    go_simp
    with_reducible rfl
  rotate_left
  · simp only [Act.put, List.setIfInBounds_toArray, List.set_cons_zero, List.set_cons_succ, i64_w, i32_w]
    rfl
  refine take_ (i := 3) (N := some 14) (v := ?_) (a' := ?_) #[true, true, true, true, true, true, true, false, false, false] rfl rfl (by kernel_rfl) (fun _ _ _ h => h) (Or.inl ⟨by rfl, ?_⟩) hHeld ?_ ?_
  rotate_left
  · rintro w' ⟨s0, s1⟩
    go_simp
    with_reducible rfl
  rotate_left
  · simp only [Act.put, List.setIfInBounds_toArray, List.set_cons_zero, List.set_cons_succ, i64_w, i32_w]
    rfl
  refine take_ (i := 7) (N := some 18) (v := ?_) (a' := ?_) #[true, true, true, true, true, true, true, true, false, false] rfl rfl (by kernel_rfl) (fun _ _ _ h => h) (Or.inl ⟨by rfl, ?_⟩) hHeld ?_ ?_
  rotate_left
  · rintro w' ⟨s0, s1⟩
    go_simp
    with_reducible rfl
  rotate_left
  · simp only [Act.put, List.setIfInBounds_toArray, List.set_cons_zero, List.set_cons_succ, i64_w, i32_w]
    rfl
  refine pure_ (i := 8) (N := some 19) (v := ?_) (a' := ?_) #[true, true, true, true, true, true, true, true, true, false] rfl rfl (by kernel_rfl) (fun _ _ _ h => h) (Or.inl ⟨by rfl, ?_⟩) ?_ ?_
  rotate_left
  · intro w'
    go_simp
    with_reducible rfl
  rotate_left
  · simp only [Act.put, List.setIfInBounds_toArray, List.set_cons_zero, List.set_cons_succ, i64_w, i32_w]
    rfl
  refine pure_ (i := 9) (N := some 10) (v := ?_) (a' := ?_) #[true, true, true, true, true, true, true, true, true, true] rfl rfl (by kernel_rfl) (fun _ _ _ h => h) (Or.inl ⟨by rfl, ?_⟩) ?_ ?_
  rotate_left
  · intro w'
    go_simp
    with_reducible rfl
  rotate_left
  · simp only [Act.put, List.setIfInBounds_toArray, List.set_cons_zero, List.set_cons_succ, i64_w, i32_w]
    rfl
  refine done_ (by kernel_rfl) ?_
  go_wp2_with fail
  go_ret
  exact ⟨rfl, ⟨mb, f, H1.out.turn ((Turn.refl (fun _ => False) _).drew) (fun _ _ x => x)⟩, HT.out.drew⟩
end Go.Proofs.Ytkmhdibabdifbaa.P
