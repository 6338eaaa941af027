/- seg.Join: a builder, two loops; what it answers for texts of any size below 2^62. -/
import Derived.Test.YtbpjbnhhopohgaaGBuilder
import Derived.Test.YtbpjbnhhopohgaaGShelf
import Derived.Test.YtbpjbnhhopohgaaGReadLaws
import Derived.Test.YtbpjbnhhopohgaaGSplit
namespace Go.Proofs.Ytbpjbnhhopohgaa.P
open Go.RowKit Go.Proofs.YtbpjbnhhopohgaaW.PrintWords Go.Proofs.YtbpjbnhhopohgaaW.PrintLast Go.Proofs.YtbpjbnhhopohgaaW.PrintMore
set_option linter.unusedVariables false
set_option linter.unusedSimpArgs false

/-- The data of parts, one behind the other; none: one is no part, or there is too much. -/
def joinL : List ByteArray → ByteArray → Option ByteArray
  | [], acc => some acc
  | s :: l, acc => if (readP s).2.2.2 = true then (if acc.size > 4095 then none else joinL l (acc ++ (readP s).2.2.1)) else none
def joinM (l : List ByteArray) (m : ByteArray) : ByteArray × Int :=
  if 1 ≤ m.size ∧ m.size ≤ 4095 ∧ splitL m = l then (m, 0) else (⟨#[]⟩, 3)
def joinR (l : List ByteArray) : ByteArray × Int :=
  match joinL l ⟨#[]⟩ with
  | none => (⟨#[]⟩, 3)
  | some m => joinM l m
def seg_Join.f (l : List ByteArray) : Option (ByteArray × Int) :=
  if ∀ s ∈ l, s.size ≤ 4611686018427387904 then some (joinR l) else none
theorem readP_size (s : ByteArray) : (readP s).2.2.1.size ≤ 7 := by
  have e1 : (s.extract 1 s.size).size = s.size - 1 := by rw [ba_extract_size]; omega
  have e2 : (s.extract 2 s.size).size = s.size - 2 := by rw [ba_extract_size]; omega
  have r0 := bt_lt s 0
  unfold readP
  split
  · decide
  split
  · dsimp only; omega
  split
  · dsimp only; omega
  split
  · dsimp only; omega
  split
  · dsimp only; omega
  · decide
theorem joinL_drop (l : List ByteArray) (i : Nat) (h : i < l.length) (acc : ByteArray) : joinL (l.drop i) acc = joinL (l[i] :: l.drop (i + 1)) acc := by
  rw [List.drop_eq_getElem_cons h]

theorem split_facts (s : ByteArray) : ∃ wl we, seg_Split.f s = some (wl, we) ∧ ((we = 0 → wl = splitL s ∧ 1 ≤ s.size ∧ s.size ≤ 4095) ∧ (1 ≤ s.size ∧ s.size ≤ 4095 → we = 0)) := by
  unfold seg_Split.f
  by_cases h0 : s.size = 0
  · exact ⟨[], 2, by simp [h0], by omega, by omega⟩
  · by_cases h1 : s.size > 4095
    · exact ⟨[], 9, by simp [h0, h1], fun h => absurd h (by decide), fun h => by omega⟩
    · exact ⟨splitL s, 0, by simp [h0, h1], fun _ => ⟨rfl, by omega, by omega⟩, fun _ => rfl⟩

set_option maxHeartbeats 8000000 in
set_option maxRecDepth 100000 in
theorem seg_Join.calls (A0 : Option Addr) (c0 : Nat) (l : List ByteArray) (r1 : ByteArray) (r2 : Int) (w : World) (hr0 : Kd.C Kd.string w A0 l.length l) (hc0 : l.length ≤ c0) (h : seg_Join.f l = some (r1, r2)) :
    Calls Try.prog 31 #[.slice A0 l.length c0] w fun e w' => e = .returned (.tuple #[.string r1, .int .i64 r2]) ∧ Below w.heap.size w w' := by
  unfold seg_Join.f at h
  by_cases hz : ∀ s ∈ l, s.size ≤ 4611686018427387904
  · rw [if_pos hz] at h
    have hlen : l.length ≤ 9223372036854775807 := hr0.2.1
    have HZ := Aside0.mk hz
    have HR := Aside0.mk (Option.some.inj h)
    clear hz h
    have HR0 := Aside0.mk hr0
    have HC0 := Aside0.mk hc0
    clear hr0 hc0
    go_enter Try.func31, Try.ntmps31
    go_wp2
    go_loopw [15] (fun v wr => ∃ (i : Nat) (acc : ByteArray), i ≤ l.length ∧ v = .int .i64 i ∧ Aside0 (joinL l ⟨#[]⟩ = joinL (l.drop i) acc) ∧ acc.size ≤ 4102 ∧
        Aside0 (Lib.IsBuilderF 65 5 w.heap.size w.heap.size (Lib.byteCells acc.data.toList) wr) ∧ Aside0 (Below w.heap.size w wr)) (fun i _ => l.length + 1 - (intOf i).toNat)
    case atStart =>
      exact ⟨0, ⟨#[]⟩, Nat.zero_le _, rfl, ⟨rfl⟩, by decide, ⟨Lib.IsBuilderF.of (Lib.fresh_isBuilder _ _ w)⟩, ⟨(Below.refl _ w).alloc (Nat.le_refl _) _⟩⟩
    case round =>
      obtain ⟨i, acc, hi, rfl, HJ, hacc, HI, HB⟩ := hrel
      by_cases hil : i < l.length
      · have t1 : decide ((i : Int) < (l.length : Int)) = true := decide_eq_true (by omega)
        have hC := Kd.C_below HR0.out HB.out
        obtain ⟨ad, e, hx⟩ := Kd.at_string hC i (by omega) (by omega)
        cases e
        have hsz : l[i].size ≤ 4611686018427387904 := HZ.out _ (List.getElem_mem hil)
        have erd : rdOf ByteArray.empty l (i : Int) = l[i] := by simp [rdOf, hil]
        rw [erd] at hx
        have tn : ((i : Int)).toNat = i := Int.toNat_natCast i
        rw [tn] at hx
        obtain ⟨K, n, d, e, hE, hD⟩ : ∃ K n d e, readE l[i] = (K, n, d, e) ∧ d = (readP l[i]).2.2.1 := ⟨_, _, _, _, rfl, rfl⟩
        have hee : e = if (readP l[i]).2.2.2 = true then 0 else 3 := (congrArg (·.2.2.2) hE).symm
        have hd7 : d.size ≤ 7 := by rw [hD]; exact readP_size _
        have HRd := Aside0.mk (show seg_Read.f 3 l[i] = some (K, n, d, e) by rw [← hE]; exact seg_Read_f 0 l[i] hsz)
        have HE := Aside0.mk hE
        have HD := Aside0.mk hD
        clear hE hD
        go_wp2_with fail
        refine (seg_Read.calls 3 l[i] K n d e wr HRd.out).mono ?_
        rintro e' w1 ⟨rfl, hb1⟩
        have HI1 := Aside0.mk (bu_below HI.out hb1)
        have HB1 := Aside0.mk (HB.out.trans (hb1.mono (HB.out.size)))
        by_cases hy : (readP l[i]).2.2.2 = true
        · rw [if_pos hy] at hee; subst hee
          go_wp2_with fail
          refine (sh_Builder_Len_f w.heap.size w.heap.size _ _ (HI1.out.alloc _)).mono ?_
          rintro e' w2 ⟨rfl, rfl⟩
          rw [show (Lib.byteCells acc.data.toList).length = acc.size from by rw [Lib.byteCells_length, ba_length]]
          by_cases ha : acc.size > 4095
          · have t2 : decide ((acc.size : Int) > 4095) = true := decide_eq_true (by omega)
            have hres : joinR l = (⟨#[]⟩, 3) := by
              unfold joinR
              rw [HJ.out, joinL_drop l i hil]
              simp [joinL, hy, ha]
            rw [HR.out] at hres
            obtain ⟨rfl, rfl⟩ := Prod.mk.inj hres
            go_wp2_with fail
            go_ret2
            exact ⟨rfl, HB1.out.alloc (HB1.out.size) _⟩
          · have t2 : decide ((acc.size : Int) > 4095) = false := decide_eq_false (by omega)
            go_wp2_with fail
            refine (bu_WriteString w.heap.size w.heap.size _ d _ (HI1.out.alloc _) ?_ ?_).mono ?_
            · rw [Lib.byteCells_length, ba_length]; omega
            · have := HB1.out.size; simp; omega
            rintro e' w3 ⟨rfl, hA3, hb3, hk3⟩
            go_wp2_with fail
            go_roundw
            case rel =>
              refine ⟨i + 1, acc ++ d, by omega, ?_, ⟨?_⟩, ?_, ⟨?_⟩, ⟨?_⟩⟩
              · simp
              · rw [HJ.out, joinL_drop l i hil]
                simp only [joinL, if_pos hy, if_neg ha, HD.out]
              · rw [ByteArray.size_append]; omega
              · rw [ba_append, Lib.byteCells_append]; exact .inr hA3
              · exact (HB1.out.alloc HB1.out.size _).trans hb3
            case measure =>
              simp [intOf]; omega
        · rw [if_neg hy] at hee; subst hee
          have hres : joinR l = (⟨#[]⟩, 3) := by
            unfold joinR
            rw [HJ.out, joinL_drop l i hil]
            simp [joinL, hy]
          rw [HR.out] at hres
          obtain ⟨rfl, rfl⟩ := Prod.mk.inj hres
          go_wp2_with fail
          go_ret2
          exact ⟨rfl, HB1.out.alloc (HB1.out.size) _⟩
      · have t1 : decide ((i : Int) < (l.length : Int)) = false := decide_eq_false (by omega)
        have hj : joinL l ⟨#[]⟩ = some acc := by rw [HJ.out, show i = l.length from by omega, List.drop_length]; rfl
        have hres : joinM l acc = (r1, r2) := by rw [← HR.out]; unfold joinR; rw [hj]
        obtain ⟨wl, we, hS, hwf⟩ := split_facts acc
        have HS := Aside0.mk hS
        have HM := Aside0.mk hres
        have HF := Aside0.mk hwf
        clear hS hres hj hwf
        go_wp2_with fail
        refine (sh_Builder_String_any_k w.heap.size w.heap.size acc.data.toList wr HI.out HB.out.size).mono ?_
        rintro e' w1 ⟨rfl, hI1, hb1, hk1⟩
        rw [show (⟨acc.data.toList.toArray⟩ : ByteArray) = acc from rfl]
        go_wp2_with fail
        refine (seg_Split.calls acc wl we w1 HS.out).mono ?_
        rintro e' w2 ⟨v0, rfl, hR, hb2⟩
        obtain ⟨A1, c1, rfl, hc1, hC1⟩ := Kd.R_reads hR
        have HI2 := Aside0.mk (bu_below hI1 hb2)
        have HB2 := Aside0.mk ((HB.out.trans hb1).trans (hb2.mono (HB.out.trans hb1).size))
        have HC1 := Aside0.mk hC1
        clear hI1 hb1 hk1 hR hb2 hC1
        by_cases hwe : we = 0
        · subst hwe
          by_cases hwl : wl.length = l.length
          · have t2 : ((wl.length : Int) != (l.length : Int)) = false := by simp [hwl]
            have t3 : (wl.length != l.length) = false := by simp [hwl]
            go_wp2_with fail
            go_loopw [50] (fun v wr => ∃ i : Nat, i ≤ l.length ∧ v = .int .i64 i ∧ Aside0 (∀ j, j < i → wl[j]? = l[j]?) ∧ Aside0 (Lib.IsBuilderF 65 5 w.heap.size w.heap.size (Lib.byteCells acc.data.toList) wr) ∧ Aside0 (Below w.heap.size w wr) ∧ Aside0 (Kd.C Kd.string wr A1 wl.length wl)) (fun i _ => l.length + 1 - (intOf i).toNat)
            case atStart => exact ⟨0, Nat.zero_le _, rfl, ⟨fun j hj => absurd hj (Nat.not_lt_zero _)⟩, HI2, HB2, HC1⟩
            case round =>
              clear HI HB HI2 HB2 HC1
              obtain ⟨i, hi, rfl, HP, HI, HB, HC1⟩ := hrel
              by_cases hil : i < l.length
              · have u1 : decide ((i : Int) < (wl.length : Int)) = true := decide_eq_true (by omega)
                have hwi : i < wl.length := by omega
                obtain ⟨ad, e, hx⟩ := Kd.at_string (Kd.C_below HR0.out HB.out) i (by omega) (by omega)
                cases e
                obtain ⟨ad1, e, hx1⟩ := Kd.at_string HC1.out i (by omega) (by omega)
                cases e
                rw [show rdOf ByteArray.empty l (i : Int) = l[i] by simp [rdOf, hil], Int.toNat_natCast] at hx
                rw [show rdOf ByteArray.empty wl (i : Int) = wl[i] by simp [rdOf, hwi], Int.toNat_natCast] at hx1
                have b1 : decide ((0 : Int) ≤ (i : Int)) = true := decide_eq_true (by omega)
                have b2 : decide ((i : Int) < (l.length : Int)) = true := decide_eq_true (by omega)
                by_cases hs : wl[i] = l[i]
                · have u2 : (wl[i].toList != l[i].toList) = false := by rw [hs]; simp
                  go_wp2_with fail
                  go_roundw
                  case rel =>
                    refine ⟨i + 1, by omega, by first | rfl | simp, ⟨fun j hj => ?_⟩, HI, HB, HC1⟩
                    rcases Nat.lt_or_ge j i with h | h
                    · exact HP.out j h
                    · rw [show j = i from by omega]; simp [hil, hwi, hs]
                  case measure => simp [intOf]; omega
                · have u2 : (wl[i].toList != l[i].toList) = true := bne_iff_ne.mpr (fun h => hs (ba_toList_eq.1 h))
                  have u3 : (wl[i].toList == l[i].toList) = false := beq_eq_false_iff_ne.mpr (fun h => hs (ba_toList_eq.1 h))
                  have hm : joinM l acc = (⟨#[]⟩, 3) := by
                    unfold joinM
                    rw [if_neg (fun h => hs (by have e := (HF.out.1 (by first | trivial | rfl)).1.trans h.2.2; subst e; rfl))]
                  rw [HM.out] at hm
                  obtain ⟨rfl, rfl⟩ := Prod.mk.inj hm
                  go_wp2_with fail
                  go_ret2
                  exact ⟨rfl, HB.out⟩
              · have u1 : decide ((i : Int) < (wl.length : Int)) = false := decide_eq_false (by omega)
                have hm : joinM l acc = (acc, 0) := by
                  unfold joinM
                  obtain ⟨e1, e2, e3⟩ := HF.out.1 (by first | trivial | rfl)
                  have e4 : wl = l := by
                   apply List.ext_getElem?
                   intro j
                   rcases Nat.lt_or_ge j i with h | h
                   · exact HP.out j h
                   · rw [List.getElem?_eq_none (by omega), List.getElem?_eq_none (by omega)]
                  rw [if_pos ⟨e2, e3, e1.symm.trans e4⟩]
                rw [HM.out] at hm
                obtain ⟨rfl, rfl⟩ := Prod.mk.inj hm
                go_wp2_with fail
                refine (sh_Builder_String_any_k w.heap.size w.heap.size r1.data.toList wr HI.out HB.out.size).mono ?_
                rintro e' w3 ⟨rfl, hI3, hb3, hk3⟩
                rw [show (⟨r1.data.toList.toArray⟩ : ByteArray) = r1 from rfl]
                go_wp2_with fail
                go_ret2
                exact ⟨rfl, HB.out.trans hb3⟩
          · have t2 : ((wl.length : Int) != (l.length : Int)) = true := bne_iff_ne.mpr (by omega)
            have t3 : (wl.length != l.length) = true := by simpa using hwl
            have hm : joinM l acc = (⟨#[]⟩, 3) := by
              unfold joinM
              rw [if_neg (fun h => hwl (by rw [HF.out.1 rfl |>.1, h.2.2]))]
            rw [HM.out] at hm
            obtain ⟨rfl, rfl⟩ := Prod.mk.inj hm
            go_wp2_with fail
            go_ret2
            exact ⟨rfl, HB2.out⟩
        · have t2 : (we != 0) = true := by simpa using hwe
          have hm : joinM l acc = (⟨#[]⟩, 3) := by
            unfold joinM
            rw [if_neg (fun h => hwe (HF.out.2 ⟨h.1, h.2.1⟩))]
          rw [HM.out] at hm
          obtain ⟨rfl, rfl⟩ := Prod.mk.inj hm
          go_wp2_with fail
          go_ret2
          exact ⟨rfl, HB2.out⟩
  · rw [if_neg hz] at h; cases h
end Go.Proofs.Ytbpjbnhhopohgaa.P
