/- A register of entries: Who and Hits, by what Find answers; no conditions beyond small numbers. -/
import Derived.Test.YtaninnkhdhpcgaaGNum
import Derived.Test.YtaninnkhdhpcgaaGMeas
import Derived.Test.YtaninnkhdhpcgaaGResults
import Derived.Test.YtaninnkhdhpcgaaGObj
import Derived.Test.YtaninnkhdhpcgaaPslicesContainsintint
namespace Go.Proofs.Ytaninnkhdhpcgaa.P
open Go.RowKit Go.Maps Go.Proofs.YtaninnkhdhpcgaaW.PrintWords Go.Proofs.YtaninnkhdhpcgaaW.PrintLast Go.Proofs.YtaninnkhdhpcgaaW.PrintMore
set_option linter.unusedVariables false
set_option linter.unusedSimpArgs false

theorem index_go (l : List Int) (x : Int) (hb : l.length ≤ 1000000) : ∀ (d i k : Nat), l.length - i = d → i ≤ l.length → d < k → ∃ r, slices_Index_int_int.l0 k l x (l.length : Int) (i : Int) = some r ∧ (0 ≤ r ↔ x ∈ l.drop i)
  | 0, i, k, hd, hi, hk => by
    obtain ⟨k, rfl⟩ : ∃ m, k = m + 1 := ⟨k - 1, by omega⟩
    refine ⟨-1, ?_, ?_⟩
    · simp only [slices_Index_int_int.l0]
      rw [if_neg (by omega)]
    · rw [List.drop_eq_nil_of_le (by omega)]
      simp
  | d + 1, i, k, hd, hi, hk => by
    obtain ⟨k, rfl⟩ : ∃ m, k = m + 1 := ⟨k - 1, by omega⟩
    have hlt : i < l.length := by omega
    have hdr : l.drop i = l[i] :: l.drop (i + 1) := List.drop_eq_getElem_cons hlt
    have hrd : rd l (i : Int) = l[i] := by
      unfold rd
      rw [Int.toNat_natCast, List.getD_eq_getElem?_getD, List.getElem?_eq_getElem hlt]
      rfl
    by_cases he : x = l[i]
    · refine ⟨(i : Int), ?_, ?_⟩
      · simp only [slices_Index_int_int.l0]
        rw [if_pos (by omega), if_pos (by omega), if_pos (by omega), hrd, if_pos he]
      · rw [hdr]
        exact ⟨fun _ => by rw [he]; exact List.mem_cons_self, fun _ => by omega⟩
    · obtain ⟨r, h1, h2⟩ := index_go l x hb d (i + 1) k (by omega) (by omega) (by omega)
      refine ⟨r, ?_, ?_⟩
      · simp only [slices_Index_int_int.l0]
        rw [if_pos (by omega), if_pos (by omega), if_pos (by omega), hrd, if_neg he, wrap_succ i (by omega)]
        exact h1
      · rw [h2, hdr, List.mem_cons]
        exact ⟨.inr, fun h => h.resolve_left he⟩
theorem contains_f (l : List Int) (x : Int) (hb : l.length ≤ 1000000) : slices_Contains_int_int.f (l.length + 1) l x = some (decide (x ∈ l)) := by
  unfold slices_Contains_int_int.f slices_Index_int_int.f
  obtain ⟨r, h1, h2⟩ := index_go l x hb l.length 0 (l.length + 1) (by omega) (by omega) (by omega)
  have h1' : slices_Index_int_int.l0 (l.length + 1) l x (l.length : Int) 0 = some r := h1
  rw [h1']
  show some (decide (r ≥ 0)) = _
  congr 1
  rw [List.drop_zero] at h2
  exact decide_eq_decide.2 h2
def onceS (l : List Int) : List Int := l.foldl (fun o x => if x ∈ o then o else o ++ [x]) []
theorem once_take {l : List Int} {j : Nat} {x : Int} (hx : l[j]? = some x) : onceS (l.take (j + 1)) = if x ∈ onceS (l.take j) then onceS (l.take j) else onceS (l.take j) ++ [x] := by
  unfold onceS
  rw [List.take_add_one, hx]
  simp [List.foldl_append]
theorem once_len : ∀ l : List Int, (onceS l).length ≤ l.length := by
  have h : ∀ (l o : List Int), (l.foldl (fun o x => if x ∈ o then o else o ++ [x]) o).length ≤ o.length + l.length := by
    intro l
    induction l with
    | nil => intro o; simp
    | cons a l ih =>
      intro o
      rw [List.foldl_cons]
      refine Nat.le_trans (ih _) ?_
      split
      · rw [List.length_cons]
        omega
      · simp only [List.length_append, List.length_cons, List.length_nil]
        omega
  intro l
  have := h l []
  unfold onceS
  simpa using this
/-- What Find answers at any world behind w. -/
def Finds (w : World) (p : Value) (x0 x1 x2 : Int) (x3 : ByteArray) (L : List Int) : Prop := ∀ W, Below w.heap.size w W →
  Calls Try.prog 17 #[p, .agg #[.int .i64 x0, .int .i64 x1, .int .i64 x2, .string x3]] W fun e w' => ∃ v, e = .returned v ∧ RowX (Kd.int .i64) 3 w' v L ∧ (∀ k, v.ownBlock = some k → W.heap.size ≤ k) ∧ Below W.heap.size W w'
set_option maxHeartbeats 8000000 in
set_option maxRecDepth 100000 in
theorem reg_Hits {w : World} {p : Value} {x0 x1 x2 : Int} {x3 : ByteArray} {L : List Int} (o : Int) (hl : L.length ≤ 1000000) (hF : Finds w p x0 x1 x2 x3 L) :
    Calls Try.prog 20 #[p, .agg #[.int .i64 x0, .int .i64 x1, .int .i64 x2, .string x3], .int .i64 o] w fun e w' => e = .returned (.int .i64 ((L.filter (fun x => x == o)).length : Nat)) ∧ Below w.heap.size w w' := by
  have HF := Aside0.mk hF
  have HL := Aside0.mk hl
  clear hF hl
  have hu := Try.underlying36
  go_enter Try.func20, Try.ntmps20
  go_wp2_with fail
  refine (HF.out _ (below_alloc (Below.refl _ _) _)).mono ?_
  rintro e w1 ⟨v, rfl, hx, hn, hb⟩
  obtain ⟨A, c, rfl, hc, hC⟩ := hx.reads
  have HC := Aside0.mk hC
  have HB := Aside0.mk ((below_alloc (Below.refl w.heap.size w) (.cells #[.int .i64 x0, .int .i64 x1, .int .i64 x2, .string x3] 36 (0, 0))).trans (hb.mono (by rw [alloc_size]; omega)))
  clear hx hn hb hc hC
  go_wp2_with fail
  go_loopw [7, 14] (fun v7 v14 wr => ∃ j : Nat, j ≤ L.length ∧ v14 = .int .i64 j ∧ v7 = .int .i64 (((L.take j).filter (fun x => x == o)).length : Nat) ∧ wr = w1) (fun _ v _ => L.length + 1 - (intOf v).toNat)
  case atStart => exact ⟨0, by omega, rfl, rfl, rfl⟩
  case round =>
    obtain ⟨j, hj, rfl, rfl, rfl⟩ := hrel
    by_cases hjl : j < L.length
    · have d1 : decide ((j : Int) < (L.length : Int)) = true := decide_eq_true (by omega)
      have j1 : (j : Int) < (L.length : Int) := by omega
      obtain ⟨x, hx⟩ : ∃ x, L[j]? = some x := ⟨_, List.getElem?_eq_getElem hjl⟩
      obtain ⟨ad, rfl, k0⟩ := Kd.at_int HC.out (j : Int) (by omega) j1
      have hrd : rd L (j : Int) = x := by
        unfold rd
        rw [Int.toNat_natCast, List.getD_eq_getElem?_getD, hx]
        rfl
      rw [hrd, Int.toNat_natCast] at k0
      have HW := Aside0.mk (show wrap64 ((j : Int) + 1) = ((j + 1 : Nat) : Int) from wrap_succ j (by have := HL.out; omega))
      have HM := Aside0.mk (meas_succ hjl (by have := HL.out; omega))
      have HTk := Aside0.mk (show L.take (j + 1) = L.take j ++ [x] by rw [List.take_add_one, hx]; rfl)
      have hcl : ((L.take j).filter (fun x => x == o)).length ≤ 1000000 := Nat.le_trans (List.length_filter_le _ _) (Nat.le_trans (List.length_take_le' j L) HL.out)
      have HW2 := Aside0.mk (show wrap64 ((((L.take j).filter (fun x => x == o)).length : Nat) + 1 : Int) = (((((L.take j).filter (fun x => x == o)).length + 1 : Nat)) : Int) from wrap_succ _ (by omega))
      clear hx hrd hcl
      by_cases he : x = o
      · have d2 : (x == o) = true := beq_iff_eq.mpr he
        have HN := Aside0.mk (show ((L.take (j + 1)).filter (fun x => x == o)).length = ((L.take j).filter (fun x => x == o)).length + 1 by rw [HTk.out, List.filter_append, List.length_append]; simp [he])
        clear he
        go_wp2_with fail
        exact ⟨⟨j + 1, by omega, congrArg _ HW.out, by rw [HN.out]; exact congrArg _ HW2.out, trivial⟩, HM.out⟩
      · have d2 : (x == o) = false := beq_eq_false_iff_ne.mpr he
        have HN := Aside0.mk (show ((L.take (j + 1)).filter (fun x => x == o)).length = ((L.take j).filter (fun x => x == o)).length by rw [HTk.out, List.filter_append, List.length_append]; simp [he])
        clear he
        go_wp2_with fail
        exact ⟨⟨j + 1, by omega, congrArg _ HW.out, by rw [HN.out], trivial⟩, HM.out⟩
    · obtain rfl : j = L.length := by omega
      have d1 : decide ((L.length : Int) < (L.length : Int)) = false := decide_eq_false (by omega)
      rw [List.take_length]
      go_wp2_with fail
      go_ret
      exact ⟨rfl, HB.out⟩
set_option maxHeartbeats 8000000 in
set_option maxRecDepth 100000 in
theorem reg_Who {w : World} {p : Value} {x0 x1 x2 : Int} {x3 : ByteArray} {L : List Int} (hl : L.length ≤ 1000000) (hF : Finds w p x0 x1 x2 x3 L) :
    Calls Try.prog 18 #[p, .agg #[.int .i64 x0, .int .i64 x1, .int .i64 x2, .string x3]] w fun e w' => ∃ v, e = .returned v ∧ RowX (Kd.int .i64) 3 w' v (onceS L) ∧ (∀ k, v.ownBlock = some k → w.heap.size ≤ k) ∧ Below w.heap.size w w' := by
  have HF := Aside0.mk hF
  have HL := Aside0.mk hl
  clear hF hl
  have hu := Try.underlying36
  go_enter Try.func18, Try.ntmps18
  go_wp2_with fail
  refine (HF.out _ (below_alloc (Below.refl _ _) _)).mono ?_
  rintro e w1 ⟨v, rfl, hx, hn, hb⟩
  have HX := Aside0.mk hx
  obtain ⟨A, c, rfl, hc, hC⟩ := hx.reads
  have HB := Aside0.mk ((below_alloc (Below.refl w.heap.size w) (.cells #[.int .i64 x0, .int .i64 x1, .int .i64 x2, .string x3] 36 (0, 0))).trans (hb.mono (by rw [alloc_size]; omega)))
  have HC := Aside0.mk hC
  clear hx hn hb hc hC HX
  go_wp2_with fail
  go_loopw [5, 12] (fun v5 v12 wr => ∃ j : Nat, j ≤ L.length ∧ v12 = .int .i64 j ∧ Aside0 (RowX (Kd.int .i64) 3 wr v5 (onceS (L.take j)) ∧ (∀ k, v5.ownBlock = some k → w1.heap.size ≤ k) ∧ Below w1.heap.size w1 wr)) (fun _ v _ => L.length + 1 - (intOf v).toNat)
  case atStart => exact ⟨0, by omega, rfl, ⟨RowX.nil _ _ _, fun k hk => by simp [Value.ownBlock] at hk, Below.refl _ _⟩⟩
  case round =>
    obtain ⟨j, hj, rfl, HQ⟩ := hrel
    by_cases hjl : j < L.length
    · have d1 : decide ((j : Int) < (L.length : Int)) = true := decide_eq_true (by omega)
      have j1 : (j : Int) < (L.length : Int) := by omega
      obtain ⟨x, hx⟩ : ∃ x, L[j]? = some x := ⟨_, List.getElem?_eq_getElem hjl⟩
      obtain ⟨ad, rfl, k0⟩ := Kd.at_int (Kd.C_below HC.out HQ.out.2.2) (j : Int) (by omega) j1
      have hrd : rd L (j : Int) = x := by
        unfold rd
        rw [Int.toNat_natCast, List.getD_eq_getElem?_getD, hx]
        rfl
      rw [hrd, Int.toNat_natCast] at k0
      have HW := Aside0.mk (show wrap64 ((j : Int) + 1) = ((j + 1 : Nat) : Int) from wrap_succ j (by have := HL.out; omega))
      have HM := Aside0.mk (meas_succ hjl (by have := HL.out; omega))
      have HO := Aside0.mk (once_take hx)
      have HOl := Aside0.mk (show (onceS (L.take j)).length ≤ 1000000 from Nat.le_trans (once_len _) (Nat.le_trans (List.length_take_le' j L) HL.out))
      obtain ⟨A5, c5, rfl, hc5, hC5⟩ := HQ.out.1.reads
      have HCt := Aside0.mk (slices_Contains_int_int.calls _ A5 c5 (onceS (L.take j)) x _ wr hC5 hc5 (contains_f _ x HOl.out))
      clear hx hrd hc5 hC5
      go_wp2_with fail
      refine HCt.out.mono ?_
      rintro e w2 ⟨rfl, hd⟩
      have hb2 := hd.below
      have ht2 := Turn.of_below hb2 (fun _ => False)
      have Q1 := Aside0.mk (HQ.out.1.turn ht2 (fun _ _ x => x))
      have Q3 := Aside0.mk (HQ.out.2.2.trans (hb2.mono HQ.out.2.2.size))
      have Q2 := Aside0.mk HQ.out.2.1
      clear hd hb2 ht2 HQ HCt k0
      by_cases hm : x ∈ onceS (L.take j)
      · have d2 : decide (x ∈ onceS (L.take j)) = true := decide_eq_true hm
        have HN := Aside0.mk (show onceS (L.take (j + 1)) = onceS (L.take j) by rw [HO.out, if_pos hm])
        rw [d2]
        clear hm d2
        go_wp2_with fail
        exact ⟨⟨j + 1, by omega, congrArg _ HW.out, ⟨by rw [HN.out]; exact Q1.out, Q2.out, Q3.out⟩⟩, HM.out⟩
      · have d2 : decide (x ∈ onceS (L.take j)) = false := decide_eq_false hm
        have HN := Aside0.mk (show onceS (L.take (j + 1)) = onceS (L.take j) ++ [x] by rw [HO.out, if_neg hm])
        rw [d2]
        clear hm d2
        go_wp2_with (at_builtin; go_loud (refine Kd.R_append (Kd.int .i64) (W := w2) (w0 := w2) 0 rfl (.tmp 20) (.tmp 22) 44 3 (.int .i64 0) 8 rfl Try.underlying44 info3 rfl (by decide) (by decide) (.slice A5 (onceS (L.take j)).length c5) (onceS (L.take j)) x _ (fun x => (Value.slice A5 (onceS (L.take j)).length c5).ownBlock = some x ∨ w2.heap.size ≤ x) (fun _ => False) rfl rfl rfl (fun _ hk => hk.elim) (fun x hx => .inr hx) (Q1.out.R (fun x hx => .inl hx)) (Below.refl _ _) (Nat.zero_le _) (by have := HOl.out; omega) ?_))
        intro v8 w8 hR hB hg hat
        have T8 : Turn (fun k => (Value.slice A5 (onceS (L.take j)).length c5).ownBlock = some k) w2 w8 := (Turn.refl _ w2).grown hg (fun k hk => .inl hk)
        have P1 := Aside0.mk (show RowX (Kd.int .i64) 3 w8 v8 (onceS (L.take (j + 1))) by rw [HN.out]; exact RowX.of_R rfl hR)
        have P2 := Aside0.mk (show ∀ k, v8.ownBlock = some k → w1.heap.size ≤ k from fun k hk => by
          rcases hat with h | ⟨b, hb, hl⟩
          · exact Q2.out k (by rw [← h]; exact hk)
          · rw [hb] at hk
            cases hk
            exact Nat.le_trans Q3.out.size hl)
        have P3 := Aside0.mk (((Turn.of_below Q3.out (fun _ => False)).trans T8 (fun k hk => .inr (Q2.out k hk))).to_below)
        clear hR hB hg hat T8
        go_wp2_with fail
        exact ⟨⟨j + 1, by omega, congrArg _ HW.out, ⟨P1.out, P2.out, P3.out⟩⟩, HM.out⟩
    · obtain rfl : j = L.length := by omega
      have d1 : decide ((L.length : Int) < (L.length : Int)) = false := decide_eq_false (by omega)
      have hq := HQ.out.1
      rw [List.take_length] at hq
      have Q1 := Aside0.mk hq
      clear hq
      go_wp2_with fail
      go_ret
      exact ⟨u5, rfl, Q1.out, fun k hk => Nat.le_trans HB.out.size (HQ.out.2.1 k hk), HB.out.trans (HQ.out.2.2.mono HB.out.size)⟩
end Go.Proofs.Ytaninnkhdhpcgaa.P
