/- The document's clock: find, Due, Next, Cancel, Set, Tick; no conditions beyond small numbers. -/
import Derived.Test.YtbmommikjiikaaaGNum
import Derived.Test.YtbmommikjiikaaaGResults
import Derived.Test.YtbmommikjiikaaaGObj
import Derived.Test.YtbmommikjiikaaaGMeas
import Derived.Test.YtbmommikjiikaaaP0
namespace Go.Proofs.Ytbmommikjiikaaa.P
open Go.RowKit Go.Maps Go.Proofs.YtbmommikjiikaaaW.PrintWords Go.Proofs.YtbmommikjiikaaaW.PrintLast Go.Proofs.YtbmommikjiikaaaW.PrintMore
set_option linter.unusedVariables false
set_option linter.unusedSimpArgs false

abbrev One1 := S60
theorem kE1 : (k60).E = [] := rfl
theorem R_empty {α : Type} (d : Kd α) (e : Nat) (w : World) (base : Nat) (ok : Nat → Prop) {g : Nat} (hb : w.heap[g]? = some (.cells #[] e (0, 0))) (hg : base ≤ g) (hok : ok g) : d.R e w base ok (.slice (some ⟨g, 0, none⟩) 0 0) [] :=
  ⟨fun k hk => by
    have : g = k := by simpa [Value.ownBlock] using hk
    exact this ▸ hok, [], ⟨by simp, .inr ⟨g, 0, #[], rfl, hg, hb, Nat.le_refl _, Nat.zero_le _, by simp, by simp⟩⟩, Reps.none _ _⟩
structure RCv where
  now : Int
  L : List One1
structure RefI (w : World) (h : Nat) (v : Value) (r : RCv) (S : Nat → Prop) : Prop where
  hb : w.heap[h]? = some (.cells #[.int .i64 r.now, v] 40 (0, 0))
  row : RowX k60 60 w v r.L
  sh : S h
  sr : ∀ k, v.ownBlock = some k → S k
  lt : ∀ k, S k → k < w.heap.size
/-- The document's clock at h, of whose blocks are S. -/
def IsRef (h : Nat) (r : RCv) (w : World) (S : Nat → Prop) : Prop := ∃ v, RefI w h v r S
section
variable {w w1 : World} {h : Nat} {v : Value} {r : RCv} {S S2 : Nat → Prop}
theorem RefI.turn (H : RefI w h v r S) (ht : Turn S2 w w1) (hd : ∀ k, S k → ¬ S2 k) : RefI w1 h v r S :=
  ⟨ht.blk H.hb (hd h H.sh), H.row.turn ht (fun k hk => hd k (H.sr k hk)), H.sh, H.sr, fun k hk => Nat.lt_of_lt_of_le (H.lt k hk) ht.size⟩
theorem IsRef.turn (H : IsRef h r w S) (ht : Turn S2 w w1) (hd : ∀ k, S k → ¬ S2 k) : IsRef h r w1 S := by
  obtain ⟨v, H⟩ := H
  exact ⟨v, H.turn ht hd⟩
theorem IsRef.lt (H : IsRef h r w S) : ∀ k, S k → k < w.heap.size := by
  obtain ⟨v, H⟩ := H
  exact H.lt
theorem RefI.c0 (H : RefI w h v r S) : w.cell? ⟨h, 0, none⟩ = some (.int .i64 r.now) := (blk_cell H.hb 0).trans rfl
theorem RefI.c1 (H : RefI w h v r S) : w.cell? ⟨h, 1, none⟩ = some v := (blk_cell H.hb 1).trans rfl
theorem RefI.rh (H : RefI w h v r S) : v.ownBlock ≠ some h := H.row.ne_cells H.hb (by decide)
/-- Another row is stored. -/
theorem RefI.row_set (H : RefI w h v r S) {v1 : Value} {L1 : List One1} (hX : RowX k60 60 w v1 L1) (hs : ∀ k, v1.ownBlock = some k → S2 k) (hS : ∀ k, S k → S2 k) (hl : ∀ k, S2 k → k < w.heap.size) : RefI (w.setCell ⟨h, 1, none⟩ v1) h v1 { r with L := L1 } S2 := by
  have hg := blk_set H.hb 1 v1
  simp only [List.setIfInBounds_toArray, List.set_cons_zero, List.set_cons_succ] at hg
  have hne : v1.ownBlock ≠ some h := hX.ne_cells H.hb (by decide)
  have ht : Turn (fun k => k = h) w (w.setCell ⟨h, 1, none⟩ v1) := (Turn.refl (fun k => k = h) _).setCell (.inl rfl) _
  exact ⟨hg, hX.turn ht (fun k hk e => hne (by rw [hk, e])), hS _ H.sh, hs, fun k hk => Nat.lt_of_lt_of_le (hl k hk) ht.size⟩
/-- The time is stored. -/
theorem RefI.now_set (H : RefI w h v r S) (x : Int) : RefI (w.setCell ⟨h, 0, none⟩ (.int .i64 x)) h v { r with now := x } S := by
  have hg := blk_set H.hb 0 (.int .i64 x)
  simp only [List.setIfInBounds_toArray, List.set_cons_zero, List.set_cons_succ] at hg
  have ht : Turn (fun k => k = h) w (w.setCell ⟨h, 0, none⟩ (.int .i64 x)) := (Turn.refl (fun k => k = h) _).setCell (.inl rfl) _
  exact ⟨hg, H.row.turn ht (fun k hk e => H.rh (by rw [hk, e])), H.sh, H.sr, fun k hk => Nat.lt_of_lt_of_le (H.lt k hk) ht.size⟩
theorem at1 {L : List One1} (h : RowX k60 60 w v L) (i : Nat) {x : One1} (hx : L[i]? = some x) : ∃ b c, v = .slice (some ⟨b, 0, none⟩) L.length c ∧ L.length ≤ c ∧ Kd.C k60 w (some ⟨b, 0, none⟩) L.length L ∧ w.cell? ⟨b, i * 2, none⟩ = some (.int .i64 x.f0) ∧ w.cell? ⟨b, i * 2 + 1, none⟩ = some (.int .i64 x.f1) := by
  obtain ⟨A, c, rfl, hc, hC⟩ := h.reads
  have hi := (List.getElem?_eq_some_iff.1 hx).1
  obtain ⟨ad, rfl, h0, h1⟩ := at_T60 hC i (by omega) (by omega)
  obtain ⟨b, rfl⟩ := Kd.R_head h
  refine ⟨b, c, rfl, hc, hC, ?_⟩
  rw [Int.toNat_natCast] at h0 h1
  have e : (⟨b, 0, none⟩ : Addr).add (i * 2) = ⟨b, i * 2, none⟩ := by
    unfold Addr.add
    split <;> simp_all
  have ex : rd_T60 L (i : Int) = x := by
    unfold rd_T60
    rw [List.getD_eq_getElem?_getD, Int.toNat_natCast, hx]
    rfl
  rw [e, ex] at h0 h1
  exact ⟨h0, h1⟩
end
def FindP (L : List One1) (key i : Int) : Prop := (i = -1 ∧ ∀ x ∈ L, x.f0 ≠ key) ∨ ∃ (k : Nat) (x : One1), i = k ∧ L[k]? = some x ∧ x.f0 = key
theorem info60' : (Try.prog.info? 60).map (fun i => (i.zero, i.size, i.bytes)) = some (some (.agg #[.int .i64 0, .int .i64 0]), 2, 16) := by kernel_rfl
theorem info3r : (Try.prog.info? 3).map (fun i => (i.zero, i.size, i.bytes)) = some (some (.int .i64 0), 1, 8) := by kernel_rfl
set_option maxHeartbeats 8000000 in
set_option maxRecDepth 100000 in
theorem ref_find {w : World} {h : Nat} {r : RCv} {S : Nat → Prop} (key : Int) (H : IsRef h r w S) (hl : r.L.length ≤ 1000000) :
    Calls Try.prog 26 #[.pointer (some ⟨h, 0, none⟩), .int .i64 key] w fun e w' => (∃ i, e = .returned (.int .i64 i) ∧ FindP r.L key i) ∧ Below w.heap.size w w' := by
  obtain ⟨v, H⟩ := H
  have HI := Aside0.mk H
  have HL := Aside0.mk hl
  clear H hl
  go_enter Try.func26, Try.ntmps26
  go_wp2_with fail
  go_loopw [5] (fun y wr => ∃ n : Nat, n ≤ r.L.length ∧ y = .int .i64 n ∧ Aside0 (Turn (fun _ => False) w wr) ∧ Aside0 (∀ i x, i < n → r.L[i]? = some x → x.f0 ≠ key)) (fun y _ => r.L.length + 1 - (intOf y).toNat)
  case atStart => exact ⟨0, by omega, rfl, ⟨Turn.refl _ _⟩, ⟨fun i x hi => by omega⟩⟩
  case round =>
    obtain ⟨n, hn, rfl, HT, HA⟩ := hrel
    have hI := HI.out.turn HT.out (fun _ _ x => x)
    have c1 := hI.c1
    by_cases hnl : n < r.L.length
    · have d1 : decide ((n : Int) < (r.L.length : Int)) = true := decide_eq_true (by omega)
      obtain ⟨x, hx⟩ : ∃ x, r.L[n]? = some x := ⟨_, List.getElem?_eq_getElem hnl⟩
      obtain ⟨b, c', e1, hc, hC, k0, k1⟩ := at1 hI.row n hx
      rw [e1] at c1
      have j1 : (n : Int) < (r.L.length : Int) := by omega
      have HX := Aside0.mk hx
      clear hI e1 hx hC hc
      by_cases hk : x.f0 = key
      · have d2 : (x.f0 == key) = true := beq_iff_eq.mpr hk
        have HK := Aside0.mk hk
        clear hk
        go_wp2_with fail
        go_ret
        exact ⟨⟨_, rfl, .inr ⟨n, x, rfl, HX.out, HK.out⟩⟩, HT.out.to_below⟩
      · have d2 : (x.f0 == key) = false := beq_eq_false_iff_ne.mpr hk
        have HW := Aside0.mk (show wrap64 ((n : Int) + 1) = ((n + 1 : Nat) : Int) from wrap_succ n (by have := HL.out; omega))
        have HK := Aside0.mk hk
        clear hk
        go_wp2_with fail
        refine ⟨⟨n + 1, by omega, congrArg _ HW.out, HT, ⟨fun i y hi hy => ?_⟩⟩, meas_succ hnl (by have := HL.out; omega)⟩
        by_cases he : i = n
        · subst he
          rw [HX.out] at hy
          cases hy
          exact HK.out
        · exact HA.out i y (by omega) hy
    · obtain rfl : n = r.L.length := by omega
      have d1 : decide ((r.L.length : Int) < (r.L.length : Int)) = false := decide_eq_false (by omega)
      obtain ⟨A, c', e1, _, _⟩ := hI.row.reads
      rw [e1] at c1
      clear hI e1
      go_wp2_with fail
      go_ret
      refine ⟨⟨_, rfl, .inl ⟨rfl, fun x hx => ?_⟩⟩, HT.out.to_below⟩
      obtain ⟨i, hi⟩ := List.getElem?_of_mem hx
      exact HA.out i x (List.getElem?_eq_some_iff.1 hi).1 hi
def DueP (L : List One1) (key i : Int) : Prop := (i = -1 ∧ ∀ x ∈ L, x.f0 ≠ key) ∨ ∃ x ∈ L, x.f0 = key ∧ i = x.f1
set_option maxHeartbeats 8000000 in
set_option maxRecDepth 100000 in
theorem ref_Due {w : World} {h : Nat} {r : RCv} {S : Nat → Prop} (key : Int) (H : IsRef h r w S) (hl : r.L.length ≤ 1000000) :
    Calls Try.prog 21 #[.pointer (some ⟨h, 0, none⟩), .int .i64 key] w fun e w' => (∃ i, e = .returned (.int .i64 i) ∧ DueP r.L key i) ∧ Below w.heap.size w w' := by
  have HF := Aside0.mk H
  have HL := Aside0.mk hl
  clear H hl
  go_enter Try.func21, Try.ntmps21
  go_wp2_with fail
  refine (ref_find key HF.out HL.out).mono ?_
  rintro e w1 ⟨⟨i, rfl, hf⟩, hb⟩
  obtain ⟨v, H⟩ := HF.out.turn (Turn.of_below hb (fun _ => False)) (fun _ _ x => x)
  have HB := Aside0.mk hb
  rcases hf with ⟨rfl, hf⟩ | ⟨k, x, rfl, hx, hk⟩
  · have HN := Aside0.mk hf
    clear H hf hb
    have d1 : decide ((-1 : Int) < 0) = true := rfl
    go_wp2_with fail
    go_ret
    exact ⟨⟨_, rfl, .inl ⟨rfl, HN.out⟩⟩, HB.out⟩
  · have c1 := H.c1
    obtain ⟨b, c', e1, hc, hC, k0, k1⟩ := at1 H.row k hx
    have hkl := (List.getElem?_eq_some_iff.1 hx).1
    rw [e1] at c1
    have j1 : (k : Int) < (r.L.length : Int) := by omega
    have d1 : decide ((k : Int) < 0) = false := decide_eq_false (by omega)
    have HN := Aside0.mk (show DueP r.L key x.f1 from .inr ⟨x, List.mem_of_getElem? hx, hk, rfl⟩)
    clear H hb hC hc e1 hx hk
    go_wp2_with fail
    go_ret
    exact ⟨⟨_, rfl, HN.out⟩, HB.out⟩
def NextP (L : List One1) (n : Int) : Prop := (n = -1 ∧ L = []) ∨ ((∃ x ∈ L, x.f1 = n) ∧ ∀ x ∈ L, n ≤ x.f1)
theorem next_take {L : List One1} {n : Nat} {x : One1} (hx : L[n]? = some x) {m : Int} (h : NextP (L.take n) m) (hp : ∀ x ∈ L, 0 ≤ x.f1) : (m < 0 ∨ x.f1 < m → NextP (L.take (n + 1)) x.f1) ∧ (¬ (m < 0 ∨ x.f1 < m) → NextP (L.take (n + 1)) m) := by
  have e : L.take (n + 1) = L.take n ++ [x] := by rw [List.take_add_one, hx]; rfl
  rw [e]
  rcases h with ⟨rfl, he⟩ | ⟨⟨y, hy, hym⟩, ha⟩
  · rw [he]
    refine ⟨fun _ => .inr ⟨⟨x, by simp, rfl⟩, fun z hz => ?_⟩, fun h => absurd (.inl (by decide)) h⟩
    simp at hz
    rw [hz]
    exact Int.le_refl _
  · have hm : 0 ≤ m := by rw [← hym]; exact hp y (List.mem_of_mem_take hy)
    refine ⟨fun h => .inr ⟨⟨x, by simp, rfl⟩, fun z hz => ?_⟩, fun h => .inr ⟨⟨y, List.mem_append_left _ hy, hym⟩, fun z hz => ?_⟩⟩
    · rcases List.mem_append.1 hz with hz | hz
      · have := ha z hz
        omega
      · simp at hz
        rw [hz]
        exact Int.le_refl _
    · rcases List.mem_append.1 hz with hz | hz
      · exact ha z hz
      · simp at hz
        rw [hz]
        omega
set_option maxHeartbeats 8000000 in
set_option maxRecDepth 100000 in
theorem ref_Next {w : World} {h : Nat} {r : RCv} {S : Nat → Prop} (H : IsRef h r w S) (hl : r.L.length ≤ 1000000) (hp : ∀ x ∈ r.L, 0 ≤ x.f1) :
    Calls Try.prog 22 #[.pointer (some ⟨h, 0, none⟩)] w fun e w' => (∃ i, e = .returned (.int .i64 i) ∧ NextP r.L i) ∧ Below w.heap.size w w' := by
  obtain ⟨v, H⟩ := H
  have HI := Aside0.mk H
  have HL := Aside0.mk hl
  have HP := Aside0.mk hp
  clear H hl hp
  go_enter Try.func22, Try.ntmps22
  go_wp2_with fail
  go_loopw [3, 4] (fun z y wr => ∃ (n : Nat) (m : Int), n ≤ r.L.length ∧ z = .int .i64 m ∧ y = .int .i64 n ∧ Aside0 (Turn (fun _ => False) w wr) ∧ Aside0 (NextP (r.L.take n) m)) (fun _ y _ => r.L.length + 1 - (intOf y).toNat)
  case atStart => exact ⟨0, -1, by omega, rfl, rfl, ⟨Turn.refl _ _⟩, ⟨.inl ⟨rfl, rfl⟩⟩⟩
  case round =>
    obtain ⟨n, m, hn, rfl, rfl, HT, HA⟩ := hrel
    have hI := HI.out.turn HT.out (fun _ _ x => x)
    have c1 := hI.c1
    by_cases hnl : n < r.L.length
    · have d1 : decide ((n : Int) < (r.L.length : Int)) = true := decide_eq_true (by omega)
      obtain ⟨x, hx⟩ : ∃ x, r.L[n]? = some x := ⟨_, List.getElem?_eq_getElem hnl⟩
      obtain ⟨b, c', e1, hc, hC, k0, k1⟩ := at1 hI.row n hx
      rw [e1] at c1
      have j1 : (n : Int) < (r.L.length : Int) := by omega
      have HX := Aside0.mk (next_take hx HA.out HP.out)
      have HW := Aside0.mk (show wrap64 ((n : Int) + 1) = ((n + 1 : Nat) : Int) from wrap_succ n (by have := HL.out; omega))
      clear hI e1 hx hC hc
      by_cases h0 : m < 0
      · have d2 : decide (m < 0) = true := decide_eq_true h0
        have HN := Aside0.mk (HX.out.1 (.inl h0))
        clear h0
        go_wp2_with fail
        exact ⟨⟨n + 1, _, by omega, rfl, congrArg _ HW.out, HT, HN⟩, meas_succ hnl (by have := HL.out; omega)⟩
      · have d2 : decide (m < 0) = false := decide_eq_false h0
        by_cases h1 : x.f1 < m
        · have d3 : decide (x.f1 < m) = true := decide_eq_true h1
          have HN := Aside0.mk (HX.out.1 (.inr h1))
          clear h0 h1
          go_wp2_with fail
          exact ⟨⟨n + 1, _, by omega, rfl, congrArg _ HW.out, HT, HN⟩, meas_succ hnl (by have := HL.out; omega)⟩
        · have d3 : decide (x.f1 < m) = false := decide_eq_false h1
          have HN := Aside0.mk (HX.out.2 (by omega))
          clear h0 h1
          go_wp2_with fail
          exact ⟨⟨n + 1, _, by omega, rfl, congrArg _ HW.out, HT, HN⟩, meas_succ hnl (by have := HL.out; omega)⟩
    · obtain rfl : n = r.L.length := by omega
      have d1 : decide ((r.L.length : Int) < (r.L.length : Int)) = false := decide_eq_false (by omega)
      obtain ⟨A, c', e1, _, _⟩ := hI.row.reads
      rw [e1] at c1
      clear hI e1
      go_wp2_with fail
      go_ret
      refine ⟨⟨_, rfl, ?_⟩, HT.out.to_below⟩
      have := HA.out
      rwa [List.take_length] at this
end Go.Proofs.Ytbmommikjiikaaa.P
