/- seg.Split answers the parts of a message of 1 to 4095 bytes, else none and an error; no conditions. -/
import Derived.Test.YthgnhhdblbiihaaPsegmark
import Derived.Test.YthgnhhdblbiihaaGTreeAll
import Derived.Test.YthgnhhdblbiihaaGBase
import Derived.OneCell
import Derived.Deep.DeepMust
import Derived.Deep.DeepCutAuto
import Derived.Deep.CutBlock
import Derived.Deep.RegionWith
import Derived.LoopTactic
namespace Go.Proofs.Ythgnhhdblbiihaa.P
open Go.RowKit Go.Proofs.YthgnhhdblbiihaaW.PrintWords Go.Proofs.YthgnhhdblbiihaaW.PrintLast Go.Proofs.YthgnhhdblbiihaaW.PrintMore
set_option linter.unusedVariables false
set_option linter.unusedSimpArgs false

/-- The next part number j + 1: its bytes of the message. -/
def nextPart (s : ByteArray) (j : Nat) : ByteArray := byte1 (32 + (j + 1) % 16) ++ s.extract (6 + 7 * j) (min (6 + 7 * (j + 1)) s.size)
def nextMany (n : Nat) : Nat := (n - 6 + 6) / 7
def firstPart (s : ByteArray) : ByteArray := byte1 (16 + s.size / 256) ++ byte1 (s.size % 256) ++ s.extract 0 6
def splitL (s : ByteArray) : List ByteArray :=
  if s.size ≤ 7 then [byte1 s.size ++ s] else firstPart s :: (List.range (nextMany s.size)).map (nextPart s)
def seg_Split.f (s : ByteArray) : Option (List ByteArray × Int) :=
  some (if s.size = 0 then ([], 2) else if s.size > 4095 then ([], 9) else (splitL s, 0))

set_option maxHeartbeats 1000000 in
set_option maxRecDepth 100000 in
theorem split_cut.calls (s : ByteArray) (p B : Nat) (w : World) (hp : p ≤ s.size) (hs : s.size ≤ 4095) (hB : w.heap[B]? = some (.cells #[.string (s.extract p s.size)] 9 (0, 0))) :
    Calls Try.prog 64 #[.pointer (some ⟨B, 0, none⟩)] w fun e w' => e = .returned (.string (s.extract p (min (p + 7) s.size))) ∧ ∃ n, w' = (w.drewN n).setCell ⟨B, 0, none⟩ (.string (s.extract (min (p + 7) s.size) s.size)) := by
  have hc := cell_of_one hB
  have hf := free_of_one hB
  have hsz : (s.extract p s.size).size = s.size - p := by rw [ByteArray.size_extract]; omega
  obtain ⟨q, hq⟩ : ∃ q, q = s.extract p s.size := ⟨_, rfl⟩
  rw [← hq] at hc hsz
  have HQ := Aside0.mk hq
  have HSZ := Aside0.mk hsz
  clear hq hsz hB
  go_enter Try.func64, Try.ntmps64
  go_wp2
  · have h : (q.size : Int) < 7 := by assumption
    go_ret
    have h1 := HSZ.out
    have e1 : min (p + 7) s.size = s.size := by omega
    refine ⟨?_, 0, ?_⟩
    · rw [e1, ← HQ.out]; rfl
    · rw [e1, ba_extract_empty s s.size s.size (.inl (Nat.le_refl _))]; rfl
  · have h : 7 ≤ (q.size : Int) := by assumption
    go_ret
    have h1 := HSZ.out
    have e1 : min (p + 7) s.size = p + 7 := by omega
    have e2 : min 7 q.size = 7 := by omega
    have e3 : q.extract 0 7 = s.extract p (p + 7) := by rw [HQ.out, ba_extract_extract, Nat.add_zero, show min (p + 7) s.size = p + 7 by omega]
    have e4 : q.extract 7 q.size = s.extract (p + 7) s.size := by rw [HQ.out, ba_extract_extract, ← HQ.out, show min (p + q.size) s.size = s.size by omega]
    refine ⟨?_, 0, ?_⟩
    · rw [e1, ← e3]; rfl
    · rw [e1, e2, e4]; rfl

theorem mark_eq (k n : Nat) (hk : k < 16) (hn : n < 16) : seg_mark.f (k : Int) (n : Int) = some (byte1 (16 * k + n)) := by
  unfold seg_mark.f byte1
  have e1 : wrap64 ((k : Int) * 16) = ((2 ^ 4 * k : Nat) : Int) := by unfold wrap64; omega
  rw [e1, bits_or _ _ (by omega) (by omega), ← Nat.two_pow_add_eq_or_of_lt (i := 4) (by omega) k]
  rw [show ((2 ^ 4 * k + n : Nat) : Int) % 256 = ((16 * k + n : Nat) : Int) from by omega]
theorem bcell2 {W w1 : World} (hb : Below W.heap.size W w1) : (∀ b o, b < W.heap.size → w1.cell? ⟨b, o, none⟩ = W.cell? ⟨b, o, none⟩) ∧ (∀ b o, b < W.heap.size → w1.frozen? ⟨b, o, none⟩ = W.frozen? ⟨b, o, none⟩) :=
  ⟨fun b o h => hb.cell (p := ⟨b, o, none⟩) h, fun b o h => hb.frozen (p := ⟨b, o, none⟩) h⟩
theorem split_one (W : World) (base : Nat) (x : ByteArray) (hb : base ≤ W.heap.size) : Kd.R Kd.string 9 (W.alloc (.cells #[.string x] 9)) base (fun _ => True) (.slice (some ⟨W.heap.size, 0, none⟩) 1 1) [x] := by
  refine Kd.R_of_own ?_ (fun _ _ => trivial)
  have h := World.ownsRow_lit (base := base) (e := 9) (size := 1) W #[Value.string x] 1 hb (by simp [maxLen]) (by simp)
  exact h
theorem split_one' (W : World) (base : Nat) (x : ByteArray) (n : Nat) (hn : n = W.heap.size) (hb : base ≤ W.heap.size) : Kd.R Kd.string 9 (W.alloc (.cells #[.string x] 9)) base (fun _ => True) (.slice (some ⟨n, 0, none⟩) 1 1) [x] := by
  subst hn
  exact split_one W base x hb
theorem nextMany_lt (n j : Nat) (h : 7 < n) : 6 + 7 * j < n ↔ j < nextMany n := by unfold nextMany; omega

set_option maxHeartbeats 4000000 in
set_option maxRecDepth 100000 in
theorem seg_Split.calls (s : ByteArray) (r1 : List ByteArray) (r2 : Int) (w : World) (h : seg_Split.f s = some (r1, r2)) :
    Calls Try.prog 59 #[.string s] w fun e w' => ∃ v0_ : Value, e = .returned (.tuple #[v0_, .int .i64 r2]) ∧ Kd.R Kd.string 9 w' w.heap.size (fun _ => True) v0_ r1 ∧ Below w.heap.size w w' := by
  unfold seg_Split.f at h
  by_cases h0 : s.size = 0
  · simp [h0] at h
    obtain ⟨rfl, rfl⟩ := h
    have t0 : ((s.size : Int) == 0) = true := by simp [h0]
    clear h0
    go_enter Try.func59, Try.ntmps59
    go_wp2
    go_ret2
    exact ⟨_, rfl, Kd.R_nil _ _ _ _ _, Below.refl _ _⟩
  · have t0 : ((s.size : Int) == 0) = false := by simpa using h0
    by_cases h1 : s.size > 4095
    · simp [h0, h1] at h
      obtain ⟨rfl, rfl⟩ := h
      have t1 : decide (4095 < (s.size : Int)) = true := decide_eq_true (by omega)
      clear h0
      go_enter Try.func59, Try.ntmps59
      go_wp2
      go_ret2
      exact ⟨_, rfl, Kd.R_nil _ _ _ _ _, Below.refl _ _⟩
    · have t1 : decide (4095 < (s.size : Int)) = false := decide_eq_false (by omega)
      simp [h0, h1] at h
      obtain ⟨rfl, rfl⟩ := h
      have hmk := Aside0.mk (fun (k n : Nat) (hk : k < 16) (hn : n < 16) (W : World) => seg_mark.calls (k : Int) (n : Int) _ W (mark_eq k n hk hn))
      by_cases h2 : s.size ≤ 7
      · have t2 : decide ((s.size : Int) ≤ 7) = true := decide_eq_true (by omega)
        have HS : Aside0 (splitL s = [byte1 s.size ++ s]) := ⟨by unfold splitL; rw [if_pos h2]⟩
        have hm0 := Aside0.mk (fun W => seg_mark.calls 0 (s.size : Int) (byte1 s.size) W (by have := mark_eq 0 s.size (by omega) (by omega); simpa using this))
        have b0 : (byte1 s.size).size ≤ 1 := Nat.le_of_eq (byte1_size _)
        clear h0 h1
        go_enter Try.func59, Try.ntmps59
        go_wp2_with (go_at_call 63; refine (hm0.out _).mono ?_; rintro e w1 ⟨rfl, hb1⟩)
        go_ret2
        exact ⟨_, rfl, by rw [HS.out]; exact split_one w1 w.heap.size _ hb1.size, hb1.alloc hb1.size _⟩
      · have t2 : decide ((s.size : Int) ≤ 7) = false := decide_eq_false (by omega)
        have hm1 := Aside0.mk (fun W => seg_mark.calls 1 ((s.size : Int) / 256) (byte1 (16 + s.size / 256)) W (by have := mark_eq 1 (s.size / 256) (by omega) (by omega); simpa using this))
        have b1 : (byte1 (16 + s.size / 256)).size ≤ 1 := Nat.le_of_eq (byte1_size _)
        have b2 : (byte1 (s.size % 256)).size ≤ 1 := Nat.le_of_eq (byte1_size _)
        have h6 : (6 : Int) ≤ s.size := by omega
        have HS : Aside0 (splitL s = firstPart s :: (List.range (nextMany s.size)).map (nextPart s)) := ⟨by unfold splitL; rw [if_neg h2]⟩
        have hcv : ∀ (W : World) (b : Nat), W.cell? ⟨b, 0, none⟩ = some (.int .u8 ((s.size : Int) % 256)) → (convert 29 9 (.slice (some ⟨b, 0, none⟩) 1 1)).run Try.prog W = .ok (.string (byte1 (s.size % 256))) W := fun W b hc => by
          have := string_of_reads (P := Try.prog) (w := W) (A := some ⟨b, 0, none⟩) (n := 1) (c := 1) (xs := [((s.size % 256 : Nat) : Int)]) Try.underlying29 Try.underlying5 Try.underlying9 ⟨rfl, by omega, fun _ => ⟨_, rfl, fun j hj => by
            obtain rfl : j = 0 := by omega
            rw [add_plain, hc]
            rfl⟩⟩
          exact this
        clear h0
        go_enter Try.func59, Try.ntmps59
        go_upto_region 8 with (fail)
        go_cut [5] (fun v wc => Aside0 (Kd.R Kd.string 9 wc w.heap.size (fun _ => True) v [firstPart s]) ∧ Aside0 (Below w.heap.size w wc))
        case first =>
          refine region_tree (.pure 0 <| .pure 1 <| .pure 2 <| .pure 4 <| .pure 5 <| .pure 6 <| .pure 10 <| .pure 11 <| .two 3 7 (.one 7 <| .one 8 <| .one 9 <| .one 12 <| .one 13 <| .one 14 .done) (.two 3 8 (.one 8 <| .one 9 <| .one 12 <| .one 13 <| .one 14 .done) (.one 3 <| .one 9 <| .one 12 <| .one 13 <| .one 14 .done))) (by kernel_rfl) (by kernel_rfl) (fun d _ _ _ _ h => by cases d <;> exact h) ?_
          iterate 8
            apply tree_pure rfl rfl rfl
            · intro w'; go_simp; with_reducible rfl
            · simp only [Act.put, List.setIfInBounds_toArray, List.set_cons_zero, List.set_cons_succ]; rfl
          refine tree_two rfl rfl ?_ ?_
          · go_wp2_with (go_at_call 63; refine (hm1.out _).mono ?_; rintro e w1 ⟨rfl, hb1⟩)
            iterate 6
              refine tree_on (tree_one rfl ?_)
              go_wp2
            refine tree_on (tree_done ?_)
            have hz : w.heap.size ≤ w1.heap.size := by have := hb1.size; simpa using this
            have HBx : Below w.heap.size w w1 := ⟨hb1.os, hb1.tape, hb1.output, hz, fun i hi => hb1.block i (by simpa using hi)⟩
            go_wp2
            go_meet
            case rel => exact ⟨⟨split_one' _ w.heap.size _ _ (by simp) (by first | omega | (simp; omega))⟩, ⟨(HBx.alloc hz _).alloc (by first | omega | (simp; omega)) _⟩⟩
          · go_wp2
            refine tree_on (tree_two rfl rfl ?_ ?_)
            · go_wp2_with (go_at_call 63; refine (hm1.out _).mono ?_; rintro e w1 ⟨rfl, hb1⟩; obtain ⟨hcx, hfx⟩ := bcell2 hb1)
              iterate 5
                refine tree_on (tree_one rfl ?_)
                go_wp2
              refine tree_on (tree_done ?_)
              have hz : w.heap.size + 1 ≤ w1.heap.size := by have := hb1.size; simpa using this
              have HBx : Below w.heap.size w w1 := ((Below.refl w.heap.size w).drew.alloc (by simp) _).trans (hb1.mono (by simp))
              go_wp2
              go_meet
              case rel => exact ⟨⟨split_one _ w.heap.size _ (by omega)⟩, ⟨HBx.alloc (by omega) _⟩⟩
            · go_wp2
              refine tree_on (tree_one rfl ?_)
              go_wp2_with (go_at_call 63; refine (hm1.out _).mono ?_; rintro e w1 ⟨rfl, hb1⟩)
              iterate 4
                refine tree_on (tree_one rfl ?_)
                go_wp2
              refine tree_on (tree_done ?_)
              have hz : w.heap.size + 1 ≤ w1.heap.size := by have := hb1.size; simpa using this
              have HBx : Below w.heap.size w w1 := ((Below.refl w.heap.size w).drew.alloc (by simp) _).trans (hb1.mono (by simp))
              go_wp2
              go_meet
              case rel => exact ⟨⟨split_one _ w.heap.size _ (by omega)⟩, ⟨HBx.alloc (by omega) _⟩⟩
        case rest =>
          obtain ⟨HR, HB⟩ := hcut
          have hz := HB.out.size
          go_wp2_with fail
          obtain ⟨B, hBd⟩ : ∃ B, B = wc.heap.size := ⟨_, rfl⟩
          have hfresh : w.heap.size ≤ B := by omega
          have HR0 : Aside0 (Kd.R Kd.string 9 (wc.alloc (.cells #[.string (s.extract 6 s.size)] 9)) w.heap.size (fun k => k ≠ B) u5 (firstPart s :: (List.range 0).map (nextPart s))) := ⟨by
            refine Kd.R_alloc ?_ _
            exact Kd.R_mono (Kd.R_bound HR.out) (fun k hk => by have := hk.2.2.1; omega)⟩
          have HB0 : Aside0 (Below w.heap.size w (wc.alloc (.cells #[.string (s.extract 6 s.size)] 9))) := ⟨HB.out.alloc hz _⟩
          have hb0 : (wc.alloc (.cells #[.string (s.extract 6 s.size)] 9)).heap[B]? = some (.cells #[.string (s.extract (min (6 + 7 * 0) s.size) s.size)] 9 (0, 0)) := by
            rw [hBd, show min (6 + 7 * 0) s.size = 6 by omega]
            exact heap_alloc_new wc _
          rw [← hBd]
          generalize wc.alloc (.cells #[.string (s.extract 6 s.size)] 9) = w4 at *
          clear HR HB hBd hz
          go_loopw [5, 8] (fun v i wr => ∃ j : Nat, j ≤ nextMany s.size ∧ i = .int .i64 (j + 1 : Nat) ∧ wr.heap[B]? = some (.cells #[.string (s.extract (min (6 + 7 * j) s.size) s.size)] 9 (0, 0)) ∧
              Aside0 (Kd.R Kd.string 9 wr w.heap.size (fun k => k ≠ B) v (firstPart s :: (List.range j).map (nextPart s))) ∧ Aside0 (Below w.heap.size w wr)) (fun _ i _ => nextMany s.size + 1 - (intOf i).toNat)
          case atStart => exact ⟨0, Nat.zero_le _, rfl, hb0, HR0, HB0⟩
          case round =>
            clear HR0 HB0 hb0
            obtain ⟨j, hj, rfl, hbB, HR, HB⟩ := hrel
            have hcB := cell_of_one hbB
            have HBB := Aside0.mk hbB
            clear hbB
            have hsz : (s.extract (min (6 + 7 * j) s.size) s.size).size = s.size - min (6 + 7 * j) s.size := by rw [ba_extract_size]; omega
            by_cases hlt : 6 + 7 * j < s.size
            · have hne : (s.extract (min (6 + 7 * j) s.size) s.size).toList.isEmpty = false := by
                cases hq : (s.extract (min (6 + 7 * j) s.size) s.size).toList.isEmpty with
                | false => rfl
                | true =>
                  rw [List.isEmpty_iff, ba_toList_nil] at hq
                  omega
              obtain ⟨q, hq⟩ : ∃ q, q = s.extract (min (6 + 7 * j) s.size) s.size := ⟨_, rfl⟩
              rw [← hq] at hcB hne
              have hjm := (nextMany_lt s.size j (by omega)).1 hlt
              have hm2 := Aside0.mk (fun W => seg_mark.calls 2 (((j : Int) + 1) % 16) (byte1 (32 + (j + 1) % 16)) W (by
                have := mark_eq 2 ((j + 1) % 16) (by omega) (by omega)
                rw [← this]
                congr 1))
              have HNP : Aside0 (nextPart s j = byte1 (32 + (j + 1) % 16) ++ s.extract (6 + 7 * j) (min (6 + 7 * (j + 1)) s.size)) := ⟨rfl⟩
              have hb3 : (byte1 (32 + (j + 1) % 16)).size ≤ 1 := Nat.le_of_eq (byte1_size _)
              have hb4 : (s.extract (6 + 7 * j) (min (6 + 7 * (j + 1)) s.size)).size ≤ 7 := by rw [ba_extract_size]; omega
              have hmn1 : min (6 + 7 * j) s.size = 6 + 7 * j := by omega
              have HMN := Aside0.mk hmn1
              clear hsz hq hmn1
              go_wp2_with fail
              refine (hm2.out _).mono ?_
              rintro e w5 ⟨rfl, hb5⟩
              have HB5 : Aside0 (w5.heap[B]? = some (.cells #[.string (s.extract (6 + 7 * j) s.size)] 9 (0, 0))) := ⟨by
                rw [← HMN.out]
                exact (hb5.block B (Array.getElem?_eq_some_iff.1 HBB.out).1).trans HBB.out⟩
              go_wp2_with fail
              refine (split_cut.calls s (6 + 7 * j) B w5 (by omega) (by omega) HB5.out).mono ?_
              rintro e w6 ⟨rfl, nd, rfl⟩
              rw [show min (6 + 7 * j + 7) s.size = min (6 + 7 * (j + 1)) s.size from by rw [show 6 + 7 * j + 7 = 6 + 7 * (j + 1) by omega]]
              have HR6 : Aside0 (Kd.R Kd.string 9 ((w5.drewN nd).setCell ⟨B, 0, none⟩ (.string (s.extract (min (6 + 7 * (j + 1)) s.size) s.size))) w.heap.size (fun k => k ≠ B) u5 (firstPart s :: (List.range j).map (nextPart s))) :=
                ⟨Kd.R_far (Kd.R_drewN (Kd.R_below HR.out hb5) nd) (fun k hk => hk) _⟩
              have HB6 : Aside0 (Below w.heap.size w ((w5.drewN nd).setCell ⟨B, 0, none⟩ (.string (s.extract (min (6 + 7 * (j + 1)) s.size) s.size)))) :=
                ⟨(pw_below_drewN (below_step HB.out hb5) nd).setCell hfresh _⟩
              have HC6 : Aside0 (((w5.drewN nd).setCell ⟨B, 0, none⟩ (.string (s.extract (min (6 + 7 * (j + 1)) s.size) s.size))).heap[B]? = some (.cells #[.string (s.extract (min (6 + 7 * (j + 1)) s.size) s.size)] 9 (0, 0))) :=
                ⟨by
                  have := one_setCell (w := w5.drewN nd) (u := .string (s.extract (min (6 + 7 * (j + 1)) s.size) s.size)) HB5.out
                  exact this⟩
              generalize (w5.drewN nd).setCell ⟨B, 0, none⟩ (.string (s.extract (min (6 + 7 * (j + 1)) s.size) s.size)) = w6 at *
              generalize s.extract (6 + 7 * j) (min (6 + 7 * (j + 1)) s.size) = x at *
              clear HR HB HB5 HBB hcB
              go_wp2_with (at_builtin; go_must (refine Kd.R_append Kd.string (w0 := w) w.heap.size rfl (.tmp 46) (.tmp 53) 42 9 (.string ⟨#[]⟩) 16 rfl Try.underlying42 ginfo_str rfl (by decide) (by omega) u5 (firstPart s :: (List.range j).map (nextPart s)) (byte1 (32 + (j + 1) % 16) ++ x) [.string (byte1 (32 + (j + 1) % 16) ++ x)] (fun k => k ≠ B) (fun _ => False) rfl rfl ?aP (fun _ hk => hk.elim) ?aF ?aO ?aB ?aS ?aL ?_))
              case aP => exact rfl
              case aF => intro k hk; have := (Array.getElem?_eq_some_iff.1 HC6.out).1; omega
              case aO => exact HR6.out
              case aB => exact HB6.out
              case aS => exact below_size HB6.out
              case aL => simp; have : nextMany s.size ≤ 600 := by unfold nextMany; omega
                         omega
              intro v1 w7 hown hb7 hg7 hat7
              have HN : Aside0 (firstPart s :: (List.range (j + 1)).map (nextPart s) = firstPart s :: (List.range j).map (nextPart s) ++ [byte1 (32 + (j + 1) % 16) ++ x]) := ⟨by
                rw [List.range_succ, List.map_append, ← HNP.out]
                rfl⟩
              have HR7 : Aside0 (Kd.R Kd.string 9 w7 w.heap.size (fun k => k ≠ B) v1 (firstPart s :: (List.range (j + 1)).map (nextPart s))) := ⟨by
                rw [HN.out]
                exact hown⟩
              have HB7 := Aside0.mk hb7
              have hbB : w7.heap[B]? = some (.cells #[.string (s.extract (min (6 + 7 * (j + 1)) s.size) s.size)] 9 (0, 0)) := by
                rw [hg7.block B (Array.getElem?_eq_some_iff.1 HC6.out).1 (fun e => HR6.out.1 B e.symm rfl)]
                exact HC6.out
              have HC7 := Aside0.mk hbB
              clear hown hb7 hg7 hat7 HR6 HB6 HC6 hbB HNP HN
              go_wp2
              go_roundw
              case rel => exact ⟨j + 1, by omega, by go_num, HC7.out, HR7, HB7⟩
              case measure => simp [intOf]; omega
            · have hjm : ¬ j < nextMany s.size := fun h => hlt ((nextMany_lt s.size j (by omega)).2 h)
              obtain rfl : nextMany s.size = j := by omega
              have hq0 : s.extract (min (6 + 7 * nextMany s.size) s.size) s.size = ⟨#[]⟩ := ba_extract_empty _ _ _ (.inr (by omega))
              rw [hq0] at hcB
              clear hq0 hsz
              go_wp2
              go_ret2
              exact ⟨_, rfl, by rw [HS.out]; exact Kd.R_mono HR.out (fun _ _ => trivial), HB.out⟩
end Go.Proofs.Ythgnhhdblbiihaa.P
