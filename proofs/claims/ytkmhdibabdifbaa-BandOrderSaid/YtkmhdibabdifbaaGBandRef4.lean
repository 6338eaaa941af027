/- The document's bands of packets: All; no conditions. -/
import Derived.Test.YtkmhdibabdifbaaGBandRef3
namespace Go.Proofs.Ytkmhdibabdifbaa.P
open Go.RowKit Go.Maps Go.Proofs.YtkmhdibabdifbaaW.PrintWords Go.Proofs.YtkmhdibabdifbaaW.PrintLast Go.Proofs.YtkmhdibabdifbaaW.PrintMore
set_option linter.unusedVariables false
set_option linter.unusedSimpArgs false




def bandR (L : List One1) (b : Int) : List Pk := (L.filter (fun o => o.f0 == b)).map (·.f1)
def allR (L : List One1) (n : Nat) : List Pk := (List.range n).flatMap (fun b : Nat => bandR L (b : Int))
theorem allR_succ (L : List One1) (n : Nat) : allR L (n + 1) = allR L n ++ bandR L (n : Int) := by simp [allR, List.range_succ]
theorem bandR_le (L : List One1) (b : Int) : (bandR L b).length ≤ L.length := by
  unfold bandR
  rw [List.length_map]
  exact List.length_filter_le _ _
theorem allR_len (L : List One1) (h : L.length ≤ 1000000) (n : Nat) : (allR L n).length ≤ n * 1000000 := by
  induction n with
  | zero => simp [allR]
  | succ n ih =>
    rw [allR_succ, List.length_append]
    have := bandR_le L (n : Int)
    omega
theorem bandR_take (L : List One1) (b : Int) (i : Nat) (o : One1) (ho : L[i]? = some o) : bandR (L.take (i + 1)) b = bandR (L.take i) b ++ (if o.f0 = b then [o.f1] else []) := by
  unfold bandR
  rw [List.take_add_one, ho, List.filter_append, List.map_append]
  congr 1
  by_cases h : o.f0 = b
  · simp [h]
  · simp [h]
set_option maxHeartbeats 8000000 in
set_option maxRecDepth 100000 in
theorem ref_All {w : World} {h : Nat} {r : RQv} {S : Nat → Prop} (H : IsRef w h r S) (hl : r.L.length ≤ 1000000) (hb : r.bands ≤ 1000) :
    Calls Try.prog 23 #[.pointer (some ⟨h, 0, none⟩)] w fun e w' => ∃ v, e = .returned v ∧ RowX k31 31 w' v (allR r.L r.bands.toNat) ∧ (∀ k, v.ownBlock = some k → w.heap.size ≤ k) ∧ Below w.heap.size w w' := by
  obtain ⟨v0, H⟩ := H
  have HI := Aside0.mk H
  clear H
  go_enter Try.func23, Try.ntmps23
  go_wp2_with fail
  go_loopw [3, 4] (fun v y wr => ∃ j : Nat, ((j : Int) ≤ r.bands ∨ j = 0) ∧ y = .int .i64 j ∧ Aside0 (Kd.R k31 31 wr w.heap.size (fun _ => True) v (allR r.L j)) ∧ Aside0 (Below w.heap.size w wr)) (fun _ y _ => r.bands.toNat + 1 - (intOf y).toNat)
  case atStart => exact ⟨0, .inr rfl, rfl, ⟨Kd.R_nil _ _ _ _ _⟩, ⟨Below.refl _ _⟩⟩
  case round =>
    obtain ⟨j, hj, rfl, HR, HB⟩ := hrel
    have hI := HI.out.turn (Turn.of_below HB.out (fun _ => False)) (fun _ _ x => x)
    have c1 := hI.c1
    by_cases hjb : (j : Int) < r.bands
    · have d1 : decide ((j : Int) < r.bands) = true := decide_eq_true hjb
      have hlen := allR_len r.L hl j
      clear hI
      go_wp2_with fail
      go_loopw [3, 5] (fun v y wr => ∃ i : Nat, i ≤ r.L.length ∧ y = .int .i64 i ∧ Aside0 (Kd.R k31 31 wr w.heap.size (fun _ => True) v (allR r.L j ++ bandR (r.L.take i) j)) ∧ Aside0 (Below w.heap.size w wr)) (fun _ y _ => r.L.length + 1 - (intOf y).toNat)
      case atStart => exact ⟨0, by omega, rfl, ⟨by simpa [bandR] using HR.out⟩, HB⟩
      case round =>
        clear HR HB
        obtain ⟨i, hi, rfl, HR, HB⟩ := hrel
        have hI := HI.out.turn (Turn.of_below HB.out (fun _ => False)) (fun _ _ x => x)
        have c0 := hI.c0
        by_cases hil : i < r.L.length
        · obtain ⟨o, ho⟩ : ∃ o, r.L[i]? = some o := ⟨_, List.getElem?_eq_getElem hil⟩
          obtain ⟨b, c, hv, hc, hC, k0, k1, k2, k3, k4, k5, k6, k7⟩ := at8 hI.row i hil o ho
          rw [hv] at c0
          have e1 : decide ((i : Int) < (r.L.length : Int)) = true := decide_eq_true (by omega)
          have j1 : (i : Int) < (r.L.length : Int) := by omega
          have hlb := bandR_le (r.L.take i) (j : Int)
          have hlt : (r.L.take i).length ≤ 1000000 := by rw [List.length_take]; omega
          have hbt := bandR_take r.L (j : Int) i o ho
          have HBT := Aside0.mk hbt
          have HLN := Aside0.mk (show (allR r.L j ++ bandR (r.L.take i) j).length ≤ 2000000000 by rw [List.length_append]; omega)
          clear hI hv hC hbt hlen hlb hlt
          by_cases hq : o.f0 = (j : Int)
          · have e2 : (o.f0 == (j : Int)) = true := beq_iff_eq.mpr hq
            have hq2 := Aside0.mk hq
            clear hq
            go_wp2_with (at_builtin; go_loud (refine Kd.R_append k31 (W := wr) (w0 := w) w.heap.size rfl (.tmp 33) (.tmp 42) 42 31 (.agg #[(.int .i64 0), (.int .i64 0), (.int .i64 0), (.string ⟨#[]⟩), (.int .i64 0), (.int .i64 0), (.bool false)]) 64 rfl Try.underlying42 info31 rfl (by decide) (by decide) u3 (allR r.L j ++ bandR (r.L.take i) j) o.f1 _ (fun _ => True) (fun _ => False) rfl rfl (k31_mkM _ _ _ o.f1) (fun _ hk => hk.elim) (fun _ _ => trivial) HR.out HB.out HB.out.size (by have := HLN.out; omega) ?_))
            intro v1 w1 hR hB1 _ _
            have HR1 := Aside0.mk hR
            have HB1 := Aside0.mk hB1
            clear hR hB1
            go_wp2_with fail
            exact ⟨⟨i + 1, by omega, congrArg (Value.int .i64) (by omega), ⟨by rw [HBT.out, if_pos hq2.out]; exact HR1.out⟩, HB1⟩, by simp only [intOf]; omega⟩
          · have e2 : (o.f0 == (j : Int)) = false := beq_eq_false_iff_ne.mpr hq
            have hq2 := Aside0.mk hq
            clear hq
            go_wp2_with fail
            exact ⟨⟨i + 1, by omega, congrArg (Value.int .i64) (by omega), ⟨by rw [HBT.out, if_neg hq2.out, List.append_nil]; exact HR.out⟩, HB⟩, by simp only [intOf]; omega⟩
        · obtain rfl : i = r.L.length := by omega
          have e1 : decide ((r.L.length : Int) < (r.L.length : Int)) = false := decide_eq_false (by omega)
          obtain ⟨A, c, hv, hc, hC⟩ := hI.row.reads
          rw [hv] at c0
          have HR1 := Aside0.mk (show Kd.R k31 31 wr w.heap.size (fun _ => True) u3 (allR r.L (j + 1)) by rw [allR_succ]; have := HR.out; rwa [List.take_length] at this)
          clear hI hv hC HR hlen
          go_wp2_with fail
          exact ⟨⟨j + 1, .inl (by omega), congrArg (Value.int .i64) (by omega), HR1, HB⟩, by simp only [intOf]; omega⟩
    · have d1 : decide ((j : Int) < r.bands) = false := decide_eq_false hjb
      obtain rfl : j = r.bands.toNat := by omega
      clear hI
      go_wp2_with fail
      go_ret
      exact ⟨_, rfl, RowX.of_R kE HR.out, fun k hk => by
        obtain ⟨_, inner, ho, _⟩ := HR.out
        exact own_base ho k hk, HB.out⟩
end Go.Proofs.Ytkmhdibabdifbaa.P
