/- The reference's Split answers the parts that seg.Split answers; no conditions. -/
import Derived.Test.YthgnhhdblbiihaaGSplit
import Derived.Laws.DeepStrings4
namespace Go.Proofs.Ythgnhhdblbiihaa.P
open Go.RowKit Go.Proofs.YthgnhhdblbiihaaW.PrintWords Go.Proofs.YthgnhhdblbiihaaW.PrintLast Go.Proofs.YthgnhhdblbiihaaW.PrintMore
set_option linter.unusedVariables false
set_option linter.unusedSimpArgs false

def signalboxref35_Split.f (s : ByteArray) : Option (List ByteArray × Int) := seg_Split.f s

def byte2 (x y : Int) : ByteArray := strOfNums [x, y]
section
variable {P : Program} {ops : Array Oper} {rest : List Oper} {o : Oper} {a : Act} {Q : Exit → Act → World → Prop}
/-- append(v, p), texts: behind 'at_builtin'. -/
theorem R_appendS {w0 W : World} (base : Nat) (hgd : o.guard = none) (s x : Operand) (ho : o.op = .call { callee := .builtin .append, args := #[s, x], argTypes := #[42, 42] })
    (v : Value) (xs : List ByteArray) (p : ByteArray) (ok : Nat → Prop) (n : Nat) (hn : n = W.heap.size) (hs : a.eval s = v) (hx : a.eval x = .slice (some ⟨n, 0, none⟩) 1 1) (hfresh : ∀ k, W.heap.size ≤ k → ok k)
    (HO : Kd.R Kd.string 9 W base ok v xs) (HB : Below base w0 W) (hbase : base ≤ W.heap.size) (hl : xs.length + 1 ≤ 8796093022208)
    (h : ∀ v1 w1, Kd.R Kd.string 9 w1 base ok v1 (xs ++ [p]) → Below base w0 w1 → W.grownBy w1 v.ownBlock → wpList Try.prog ops Q rest (a.put o.dst v1) w1) :
    wpList Try.prog ops Q (o :: rest) a (W.alloc (.cells #[.string p] 9)) := by
  subst hn
  exact Kd.R_append Kd.string (w0 := w0) base hgd s x 42 9 (.string ⟨#[]⟩) 16 ho Try.underlying42 ginfo_str rfl (by decide) (by omega) v xs p [.string p] ok (fun _ => False) hs hx rfl (fun _ hk => hk.elim) hfresh HO HB hbase (by omega)
    fun v1 w1 h1 h2 h3 _ => h v1 w1 h1 h2 h3
end
theorem slice_lh (s : ByteArray) (p e : Int) (W : World) (h0 : 0 ≤ p) (h1 : p ≤ e) (h2 : e ≤ s.size) : (Instr.slice 9 (.string s) (some (.int .i64 p)) (some (.int .i64 e)) none).run Try.prog W = .ok (.string (s.extract p.toNat e.toNat)) W := by
  rw [run_slice_string_if W 9 s .i64 .i64 p e Try.underlying9, if_pos ⟨by omega, h2⟩, if_pos ⟨h0, h1⟩]
theorem conv1 (W : World) (b : Nat) (x : Int) (hc : W.cell? ⟨b, 0, none⟩ = some (.int .u8 x)) : (convert 29 9 (.slice (some ⟨b, 0, none⟩) 1 1)).run Try.prog W = .ok (.string (strOfNums [x])) W :=
  string_of_reads (P := Try.prog) (w := W) (A := some ⟨b, 0, none⟩) (n := 1) (c := 1) (xs := [x]) Try.underlying29 Try.underlying5 Try.underlying9 ⟨rfl, by omega, fun _ => ⟨_, rfl, fun j hj => by
    obtain rfl : j = 0 := by omega
    rw [add_plain, hc]
    rfl⟩⟩
theorem conv2 (W : World) (b : Nat) (x y : Int) (hc : W.cell? ⟨b, 0, none⟩ = some (.int .u8 x)) (hc2 : W.cell? ⟨b, 1, none⟩ = some (.int .u8 y)) : (convert 29 9 (.slice (some ⟨b, 0, none⟩) 2 2)).run Try.prog W = .ok (.string (byte2 x y)) W :=
  string_of_reads (P := Try.prog) (w := W) (A := some ⟨b, 0, none⟩) (n := 2) (c := 2) (xs := [x, y]) Try.underlying29 Try.underlying5 Try.underlying9 ⟨rfl, by omega, fun _ => ⟨_, rfl, fun j hj => by
    have hj : j = 0 ∨ j = 1 := by omega
    rcases hj with rfl | rfl
    · rw [add_plain, hc]; rfl
    · rw [add_plain, hc2]; rfl⟩⟩

set_option maxHeartbeats 4000000 in
set_option maxRecDepth 100000 in
theorem signalboxref35_Split.calls (s : ByteArray) (r1 : List ByteArray) (r2 : Int) (w : World) (h : signalboxref35_Split.f s = some (r1, r2)) :
    Calls Try.prog 31 #[.string s] w fun e w' => ∃ v0_ : Value, e = .returned (.tuple #[v0_, .int .i64 r2]) ∧ Kd.R Kd.string 9 w' w.heap.size (fun _ => True) v0_ r1 ∧ Below w.heap.size w w' := by
  unfold signalboxref35_Split.f seg_Split.f at h
  by_cases h0 : s.size = 0
  · simp [h0] at h
    obtain ⟨rfl, rfl⟩ := h
    have t0 : ((s.size : Int) == 0) = true := by simp [h0]
    clear h0
    go_enter Try.func31, Try.ntmps31
    go_wp2
    go_ret2
    exact ⟨_, rfl, Kd.R_nil _ _ _ _ _, Below.refl _ _⟩
  · have t0 : ((s.size : Int) == 0) = false := by simpa using h0
    by_cases h1 : s.size > 4095
    · simp [h0, h1] at h
      obtain ⟨rfl, rfl⟩ := h
      have t1 : decide (4095 < (s.size : Int)) = true := decide_eq_true (by omega)
      clear h0
      go_enter Try.func31, Try.ntmps31
      go_wp2
      go_ret2
      exact ⟨_, rfl, Kd.R_nil _ _ _ _ _, Below.refl _ _⟩
    · have t1 : decide (4095 < (s.size : Int)) = false := decide_eq_false (by omega)
      simp [h0, h1] at h
      obtain ⟨rfl, rfl⟩ := h
      by_cases h2 : s.size ≤ 7
      · have t2 : decide ((s.size : Int) < 8) = true := decide_eq_true (by omega)
        have HS : Aside0 (splitL s = [byte1 s.size ++ s]) := ⟨by unfold splitL; rw [if_pos h2]⟩
        have b0 : (byte1 s.size).size ≤ 1 := Nat.le_of_eq (byte1_size _)
        have hcv : ∀ (W : World) (b : Nat), W.cell? ⟨b, 0, none⟩ = some (.int .u8 (s.size : Int)) → (convert 29 9 (.slice (some ⟨b, 0, none⟩) 1 1)).run Try.prog W = .ok (.string (byte1 s.size)) W := fun W b hc => conv1 W b _ hc
        have hb8 : (s.size : Int) % 256 = s.size := by omega
        clear h0 h1
        go_enter Try.func31, Try.ntmps31
        go_wp2_with (at_builtin; go_must (refine R_appendS (w0 := w) w.heap.size rfl (.tmp 19) (.tmp 26) rfl (.slice none 0 0) [] (byte1 s.size ++ s) (fun _ => True) _ ?aN rfl rfl ?aF ?aO ?aB ?aS ?aL ?_))
        case aN => simp
        case aF => exact fun _ _ => trivial
        case aO => exact Kd.R_nil _ _ _ _ _
        case aB => exact (Below.refl _ _).alloc (Nat.le_refl _) _
        case aS => simp
        case aL => simp
        intro v1 w1 hown hb1 _
        have HR := Aside0.mk hown
        have HB := Aside0.mk hb1
        clear hown hb1
        go_wp2
        go_ret2
        exact ⟨_, rfl, by rw [HS.out]; exact HR.out, HB.out⟩
      · have t2 : decide ((s.size : Int) < 8) = false := decide_eq_false (by omega)
        have HS : Aside0 (splitL s = firstPart s :: (List.range (nextMany s.size)).map (nextPart s)) := ⟨by unfold splitL; rw [if_neg h2]⟩
        have HF : Aside0 (firstPart s = byte2 (16 + (s.size : Int) / 256) ((s.size : Int) % 256) ++ s.extract 0 6) := ⟨by
          unfold firstPart byte1 byte2
          rw [← ba_nums_append, show ((16 + s.size / 256 : Nat) : Int) = 16 + (s.size : Int) / 256 from by omega, show ((s.size % 256 : Nat) : Int) = (s.size : Int) % 256 from by omega]
          rfl⟩
        have hcv2 := fun (W : World) (b : Nat) (x y : Int) => conv2 W b x y
        have q1 : Int.tdiv (s.size : Int) 256 = (s.size : Int) / 256 := Int.tdiv_eq_ediv_of_nonneg (by omega)
        have q2 : Int.tmod (s.size : Int) 256 = (s.size : Int) % 256 := Int.tmod_eq_emod_of_nonneg (by omega)
        have q3 : wrap64 ((s.size : Int) / 256) = (s.size : Int) / 256 := by unfold wrap64; omega
        have q4 : wrap64 (16 + (s.size : Int) / 256) = 16 + (s.size : Int) / 256 := by unfold wrap64; omega
        have q5 : IntKind.u8.wrap (16 + (s.size : Int) / 256) = 16 + (s.size : Int) / 256 := by rw [IntKind.wrap_u8]; omega
        have q6 : IntKind.u8.wrap ((s.size : Int) % 256) = (s.size : Int) % 256 := by rw [IntKind.wrap_u8]; omega
        have q7 : IntKind.i64.wrap ((s.size : Int) / 256) = (s.size : Int) / 256 := by rw [IntKind.wrap_i64]; omega
        have q8 : IntKind.i64.wrap (16 + (s.size : Int) / 256) = 16 + (s.size : Int) / 256 := by rw [IntKind.wrap_i64]; omega
        have h6 : (6 : Int) ≤ s.size := by omega
        have h6' : 6 ≤ s.size := by omega
        have b0 : (byte2 (16 + (s.size : Int) / 256) ((s.size : Int) % 256)).size ≤ 2 := by unfold byte2; rw [strOfNums_size]; simp
        clear h0
        go_enter Try.func31, Try.ntmps31
        go_wp2_with fail
        refine region_tree (.pure 0 <| .pure 1 <| .pure 2 <| .pure 3 <| .pure 4 <| .pure 5 <| .pure 6 <| .pure 7 <| .pure 10 <| .pure 11 <| .one 8 <| .one 9 <| .one 12 <| .one 13 <| .one 14 <| .one 15 .done) (by kernel_rfl) (by kernel_rfl) (fun d _ _ _ _ h => by cases d <;> exact h) ?_
        iterate 10
          apply tree_pure rfl rfl rfl
          · intro w'; go_simp; with_reducible rfl
          · simp only [Act.put, List.setIfInBounds_toArray, List.set_cons_zero, List.set_cons_succ]; rfl
        iterate 4
          refine tree_on (tree_one rfl ?_)
          go_wp2_with fail
        refine tree_on (tree_one rfl ?_)
        refine R_appendS (w0 := w) (W := (w.alloc (.cells #[.int .u8 (16 + (s.size : Int) / 256), .int .u8 ((s.size : Int) % 256)] 5)).drew) w.heap.size rfl (.tmp 28) (.tmp 41) rfl (.slice none 0 0) [] (byte2 (16 + (s.size : Int) / 256) ((s.size : Int) % 256) ++ s.extract 0 6) (fun _ => True) _ ?aN rfl rfl ?aF ?aO ?aB ?aS ?aL ?_
        case aN => simp
        case aF => exact fun _ _ => trivial
        case aO => exact Kd.R_nil _ _ _ _ _
        case aB => exact ((Below.refl _ _).alloc (Nat.le_refl _) _).drew
        case aS => simp
        case aL => simp
        intro v1 w1 hown hb1 _
        rw [List.nil_append, ← HF.out] at hown
        have HR0 : Aside0 (Kd.R Kd.string 9 w1 w.heap.size (fun _ => True) v1 (firstPart s :: (List.range 0).map (nextPart s))) := ⟨hown⟩
        have HB0 := Aside0.mk hb1
        clear hown hb1 q1 q2 q3 q4 q5 q6 q7 q8 HF hcv2 b0
        go_wp2_with fail
        refine tree_on (tree_one rfl ?_)
        go_wp2_with fail
        refine tree_on (tree_done ?_)
        go_wp2_with fail
        go_loopw [4, 6, 7] (fun v i c wr => ∃ j m p : Nat, j ≤ nextMany s.size ∧ m ≤ 10000 ∧ p ≤ 10000 ∧ Aside0 (m = j + 1) ∧ Aside0 (p = 6 + 7 * j) ∧ i = .int .i64 m ∧ c = .int .i64 p ∧
              Aside0 (Kd.R Kd.string 9 wr w.heap.size (fun _ => True) v (firstPart s :: (List.range j).map (nextPart s))) ∧ Aside0 (Below w.heap.size w wr)) (fun _ _ c _ => s.size + 7 - (intOf c).toNat)
        case atStart => exact ⟨0, 1, 6, Nat.zero_le _, by omega, by omega, ⟨rfl⟩, ⟨rfl⟩, rfl, rfl, HR0, HB0⟩
        case round =>
          clear HR0 HB0
          obtain ⟨j, m, p, hj, hm1, hp1, HM, HP, rfl, rfl, HR, HB⟩ := hrel
          by_cases hlt : p < s.size
          · have hjm : j < nextMany s.size := (nextMany_lt s.size j (by omega)).1 (by rw [← HP.out]; exact hlt)
            have hN : firstPart s :: (List.range (j + 1)).map (nextPart s) = firstPart s :: (List.range j).map (nextPart s) ++ [byte1 (32 + m % 16) ++ s.extract p (min (p + 7) s.size)] := by
              rw [List.range_succ, List.map_append, HM.out, HP.out]
              rfl
            have HN := Aside0.mk hN
            clear hN
            have q2 : Int.tmod (m : Int) 16 = (m : Int) % 16 := Int.tmod_eq_emod_of_nonneg (by omega)
            have q3 : wrap64 (32 + (m : Int) % 16) = 32 + (m : Int) % 16 := by unfold wrap64; omega
            have q5 : IntKind.u8.wrap (32 + (m : Int) % 16) = 32 + (m : Int) % 16 := by rw [IntKind.wrap_u8]; omega
            have q8 : IntKind.i64.wrap (32 + (m : Int) % 16) = 32 + (m : Int) % 16 := by rw [IntKind.wrap_i64]; omega
            have hb1' : (byte1 (32 + m % 16)).size ≤ 1 := Nat.le_of_eq (byte1_size _)
            have hcv : ∀ (W : World) (b : Nat), W.cell? ⟨b, 0, none⟩ = some (.int .u8 (32 + (m : Int) % 16)) → (convert 29 9 (.slice (some ⟨b, 0, none⟩) 1 1)).run Try.prog W = .ok (.string (byte1 (32 + m % 16))) W := fun W b hc => conv1 W b _ hc
            have hz := HB.out.size
            by_cases he : s.size < p + 7
            · have HE : Aside0 (min (p + 7) s.size = s.size) := ⟨by omega⟩
              have hxs : (s.extract p (s.size)).size ≤ 7 := by rw [ba_extract_size]; omega
              have hsl := fun W : World => slice_lh s (p : Int) ((s.size : Int)) W (by omega) (by omega) (by omega)
              go_wp2_with fail
              refine region_tree (.pure 0 <| .pure 1 <| .pure 2 <| .pure 3 <| .pure 4 <| .pure 7 <| .pure 8 <| .pure 9 <| .pure 10 <| .one 5 <| .one 6 <| .one 11 <| .one 12 <| .one 13 <| .one 14 .done) (by kernel_rfl) (by kernel_rfl) (fun d _ _ _ _ h => by cases d <;> exact h) ?_
              iterate 9
                apply tree_pure rfl rfl rfl
                · intro w'; go_simp; with_reducible rfl
                · simp only [Act.put, List.setIfInBounds_toArray, List.set_cons_zero, List.set_cons_succ]; rfl
              iterate 4
                refine tree_on (tree_one rfl ?_)
                go_wp2_with fail
              refine tree_on (tree_one rfl ?_)
              refine R_appendS (w0 := w) (W := (wr.alloc (.cells #[.int .u8 (32 + (m : Int) % 16)] 5)).drew) w.heap.size rfl (.tmp 54) (.tmp 66) rfl u4 (firstPart s :: (List.range j).map (nextPart s)) (byte1 (32 + m % 16) ++ s.extract p (s.size)) (fun _ => True) _ ?aNx rfl rfl ?aFx ?aOx ?aBx ?aSx ?aLx ?_
              case aNx => simp
              case aFx => exact fun _ _ => trivial
              case aOx => exact Kd.R_drew (Kd.R_alloc HR.out _)
              case aBx => exact (HB.out.alloc hz _).drew
              case aSx => simp; omega
              case aLx =>
                have : nextMany s.size ≤ 600 := by unfold nextMany; omega
                simp
                omega
              intro v2 w2 hown hb2 _
              have HR2 : Aside0 (Kd.R Kd.string 9 w2 w.heap.size (fun _ => True) v2 (firstPart s :: (List.range (j + 1)).map (nextPart s))) := ⟨by rw [HN.out, HE.out]; exact hown⟩
              have HB2 := Aside0.mk hb2
              clear hown hb2 hsl hcv HR HB q2 q3 q5 q8
              go_wp2_with fail
              refine tree_on (tree_one rfl ?_)
              go_wp2_with fail
              refine tree_on (tree_done ?_)
              go_wp2
              go_roundw
              case rel => exact ⟨j + 1, m + 1, p + 7, by omega, by have := HM.out; unfold nextMany at hjm; omega, by omega, ⟨by rw [HM.out]⟩, ⟨by rw [HP.out]; omega⟩, by go_num, by go_num, HR2, HB2⟩
              case measure => simp [intOf]; omega
            · have HE : Aside0 (min (p + 7) s.size = p + 7) := ⟨by omega⟩
              have hxs : (s.extract p (p + 7)).size ≤ 7 := by rw [ba_extract_size]; omega
              have hsl := fun W : World => slice_lh s (p : Int) ((p : Int) + 7) W (by omega) (by omega) (by omega)
              go_wp2_with fail
              refine region_tree (.pure 0 <| .pure 1 <| .pure 2 <| .pure 3 <| .pure 4 <| .pure 7 <| .pure 8 <| .pure 9 <| .pure 10 <| .one 5 <| .one 6 <| .one 11 <| .one 12 <| .one 13 <| .one 14 .done) (by kernel_rfl) (by kernel_rfl) (fun d _ _ _ _ h => by cases d <;> exact h) ?_
              iterate 9
                apply tree_pure rfl rfl rfl
                · intro w'; go_simp; with_reducible rfl
                · simp only [Act.put, List.setIfInBounds_toArray, List.set_cons_zero, List.set_cons_succ]; rfl
              iterate 4
                refine tree_on (tree_one rfl ?_)
                go_wp2_with fail
              refine tree_on (tree_one rfl ?_)
              refine R_appendS (w0 := w) (W := (wr.alloc (.cells #[.int .u8 (32 + (m : Int) % 16)] 5)).drew) w.heap.size rfl (.tmp 54) (.tmp 66) rfl u4 (firstPart s :: (List.range j).map (nextPart s)) (byte1 (32 + m % 16) ++ s.extract p (p + 7)) (fun _ => True) _ ?aNy rfl rfl ?aFy ?aOy ?aBy ?aSy ?aLy ?_
              case aNy => simp
              case aFy => exact fun _ _ => trivial
              case aOy => exact Kd.R_drew (Kd.R_alloc HR.out _)
              case aBy => exact (HB.out.alloc hz _).drew
              case aSy => simp; omega
              case aLy =>
                have : nextMany s.size ≤ 600 := by unfold nextMany; omega
                simp
                omega
              intro v2 w2 hown hb2 _
              have HR2 : Aside0 (Kd.R Kd.string 9 w2 w.heap.size (fun _ => True) v2 (firstPart s :: (List.range (j + 1)).map (nextPart s))) := ⟨by rw [HN.out, HE.out]; exact hown⟩
              have HB2 := Aside0.mk hb2
              clear hown hb2 hsl hcv HR HB q2 q3 q5 q8
              go_wp2_with fail
              refine tree_on (tree_one rfl ?_)
              go_wp2_with fail
              refine tree_on (tree_done ?_)
              go_wp2
              go_roundw
              case rel => exact ⟨j + 1, m + 1, p + 7, by omega, by have := HM.out; unfold nextMany at hjm; omega, by omega, ⟨by rw [HM.out]⟩, ⟨by rw [HP.out]; omega⟩, by go_num, by go_num, HR2, HB2⟩
              case measure => simp [intOf]; omega
          · have hjm : ¬ j < nextMany s.size := fun h => hlt (by rw [HP.out]; exact (nextMany_lt s.size j (by omega)).2 h)
            obtain rfl : nextMany s.size = j := by omega
            go_wp2
            go_ret2
            exact ⟨_, rfl, by rw [HS.out]; exact HR.out, HB.out⟩
end Go.Proofs.Ythgnhhdblbiihaa.P
