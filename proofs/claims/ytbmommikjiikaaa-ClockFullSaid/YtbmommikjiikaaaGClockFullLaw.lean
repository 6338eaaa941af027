/- ClockFull's walk: there is room for as many alarms as may be, and for no more; the key is a number of 64 bits. -/
import Derived.Test.YtbmommikjiikaaaGClockAlive
namespace Go.Proofs.Ytbmommikjiikaaa.P
open Go.RowKit Go.Proofs.YtbmommikjiikaaaW.PrintWords Go.Proofs.YtbmommikjiikaaaW.PrintLast Go.Proofs.YtbmommikjiikaaaW.PrintMore
set_option linter.unusedVariables false
set_option linter.unusedSimpArgs false

def fullL (n : Nat) : List En := (List.range n).map (fun i : Nat => (⟨(i : Int), 1, (i : Int)⟩ : En))
def fullC (n : Nat) : CK := ⟨0, n, fullL n⟩
theorem fullL_len (n : Nat) : (fullL n).length = n := by unfold fullL; simp
theorem fullL_mem {n : Nat} {e : En} (h : e ∈ fullL n) : ∃ i, i < n ∧ e = ⟨(i : Int), 1, (i : Int)⟩ := by
  unfold fullL at h
  obtain ⟨i, hi, rfl⟩ := List.mem_map.1 h
  exact ⟨i, List.mem_range.1 hi, rfl⟩
theorem fullL_succ (n : Nat) : fullL (n + 1) = fullL n ++ [⟨(n : Int), 1, (n : Int)⟩] := by
  unfold fullL
  rw [List.range_succ, List.map_append]
  rfl
theorem full_set (n : Nat) : setC (fullC n) (n : Int) 1 = fullC (n + 1) := by
  have h : outL (fullL n) (n : Int) = fullL n := out_same (fun x hx => by
    obtain ⟨i, hi, rfl⟩ := fullL_mem hx
    show (i : Int) ≠ (n : Int)
    omega)
  show (⟨0, (n : Int) + 1, outL (fullL n) (n : Int) ++ [⟨(n : Int), 0 + 1, (n : Int)⟩]⟩ : CK) = ⟨0, ((n + 1 : Nat) : Int), fullL (n + 1)⟩
  rw [h, fullL_succ]
  rfl
theorem full_ok : ∀ n : Nat, n ≤ 1000 → COk (fullC n)
  | 0, _ => COk.c0
  | n + 1, h => by
    rw [← full_set n]
    exact (full_ok n (by omega)).set (wfI _ (by omega) (by omega)) (by decide) (by decide) (by show (n : Int) < _; omega) (.inr (by show (fullL n).length < 1000; rw [fullL_len]; omega))
theorem meas_plain {L n : Nat} (h : n < L) : L + 1 - (intOf (.int .i64 ((n : Int) + 1))).toNat < L + 1 - (intOf (.int .i64 (n : Int))).toNat := by
  show L + 1 - ((n : Int) + 1).toNat < L + 1 - ((n : Nat) : Int).toNat
  omega
def full7 (n : Nat) : CK := setC (fullC n) 7 2
theorem full_no {n : Nat} {key : Int} (hn : n ≤ 1000) (h : ¬ (0 ≤ key ∧ key < 1000)) : hasK (fullC n).L key = false := by
  cases hh : hasK (fullC n).L key
  · rfl
  · obtain ⟨e, he, rfl⟩ := (hasK_iff _ _).1 hh
    obtain ⟨i, hi, rfl⟩ := fullL_mem he
    exact absurd ⟨by show 0 ≤ (i : Int); omega, by show (i : Int) < 1000; omega⟩ h
theorem full_has {n : Nat} (hn : 7 < n) : hasK (fullC n).L 7 = true := (hasK_iff _ _).2 ⟨⟨7, 1, 7⟩, by
  show _ ∈ fullL n
  unfold fullL
  exact List.mem_map.2 ⟨7, List.mem_range.2 hn, rfl⟩, rfl⟩
theorem full7_ok {n : Nat} (hn : 7 < n) (h2 : n ≤ 1000) : COk (full7 n) := (full_ok n h2).set (by decide) (by decide) (by decide) (by show (n : Int) < _; omega) (.inl (full_has hn))
theorem full7_due {n : Nat} (hn : 7 < n) (hl : n ≤ 1000) : ((dueL (full7 n).L ((full7 n).now + 1)).map (·.key)).length = n - 1 := by
  rw [List.length_map]
  show (dueL (outL (fullL n) 7 ++ [⟨7, 0 + 2, (n : Int)⟩]) (0 + 1)).length = n - 1
  unfold dueL
  rw [List.filter_append, List.length_append]
  have h1 : (outL (fullL n) 7).filter (fun e => e.due == 0 + 1) = outL (fullL n) 7 := List.filter_eq_self.2 (fun e he => by
    obtain ⟨i, hi, rfl⟩ := fullL_mem (out_mem he)
    rfl)
  have h2 := out_len (full_ok n hl).keys 7
  rw [full_has hn, if_pos rfl] at h2
  have h3 : (fullC n).L.length = n := fullL_len n
  rw [h3] at h2
  rw [h1]
  have h4 : (outL (fullL n) 7).length + 1 = n := h2
  have h5 : ([⟨7, 0 + 2, (n : Int)⟩] : List En).filter (fun e => e.due == 0 + 1) = [] := rfl
  rw [h5]
  simp only [List.length_nil]
  omega
theorem full7_rest (n : Nat) : (tickC (full7 n)).L.length < 1000 := by
  have h2 : (tickC (full7 n)).L = restL (outL (fullL n) 7 ++ [⟨7, 0 + 2, (n : Int)⟩]) (0 + 1) := rfl
  rw [h2]
  unfold restL
  rw [List.filter_append, List.length_append]
  have h1 : (outL (fullL n) 7).filter (fun e => !(e.due == 0 + 1)) = [] := List.filter_eq_nil_iff.2 (fun e he => by
    obtain ⟨i, hi, rfl⟩ := fullL_mem (out_mem he)
    simp)
  rw [h1]
  exact Nat.lt_of_le_of_lt (Nat.add_le_add_left (List.length_filter_le _ _) _) (by show 1 < 1000; decide)
set_option maxHeartbeats 8000000 in
set_option maxRecDepth 100000 in
theorem clockfull_law (key : Int) (hk : (Lit.int .i64 key).wf = true) (w : World) : Calls Try.prog 3 #[.int .i64 key] w fun e w' => e = .returned (.bool true) ∧ Below w.heap.size w w' := by
  have hs : (decide (key ≥ 0) = true ∧ decide (key < 1000) = true) ∨ (¬ (0 ≤ key ∧ key < 1000) ∧ (decide (key ≥ 0) = false ∨ (decide (key ≥ 0) = true ∧ decide (key < 1000) = false))) := by
    by_cases h1 : 0 ≤ key
    · by_cases h2 : key < 1000
      · exact .inl ⟨decide_eq_true h1, decide_eq_true h2⟩
      · exact .inr ⟨fun h => h2 h.2, .inr ⟨decide_eq_true h1, decide_eq_false h2⟩⟩
    · exact .inr ⟨fun h => h1 h.1, .inl (decide_eq_false h1)⟩
  have HK := Aside0.mk hk
  clear hk
  rcases hs with ⟨d1, d2⟩ | ⟨hno, hs⟩
  · go_enter Try.func3, Try.ntmps3
    go_wp2_with fail
    refine (alive21 _).mono ?_
    rintro e w9 ⟨rfl, hb⟩
    go_wp2_with fail
    go_ret
    exact ⟨rfl, hb⟩
  · have HN := Aside0.mk hno
    clear hno
    rcases hs with d1 | ⟨d1, d2⟩
    all_goals
      go_enter Try.func3, Try.ntmps3
      go_wp2_with fail
      refine (two_New nought_framed (Two.start w)).mono ?_
      rintro e w1 ⟨g, rfl, H, _⟩
      have H1 := Aside0.mk H
      clear H
      clear d1
      try clear d2
      go_wp2_with fail
      go_loopw [13] (fun v wr => ∃ n : Nat, n ≤ 1000 ∧ v = .int .i64 n ∧ Aside0 (Two w wr (IsClock g (fullC n)) Nought (fun _ => False))) (fun v _ => 1000 + 1 - (intOf v).toNat)
      case atStart => exact ⟨0, by omega, rfl, ⟨H1.out⟩⟩
      case round =>
        obtain ⟨n, hn, rfl, HT⟩ := hrel
        by_cases hlt : n < 1000
        · have d1 : decide ((n : Int) < 1000) = true := decide_eq_true (by omega)
          go_wp2_with fail
          refine (two_Set nought_framed HT.out (key := n) (d := 1) (wfI _ (by omega) (by omega)) (by decide) (by decide) (full_ok n hn) (.inr (by show (fullL n).length < 1000; rw [fullL_len]; exact hlt))).mono ?_
          rintro e w2 ⟨rfl, H, _⟩
          rw [full_set] at H
          have H2 := Aside0.mk H
          clear H
          go_wp2_with fail
          exact ⟨⟨n + 1, by omega, rfl, H2⟩, meas_plain hlt⟩
        · have HE := Aside0.mk (show n = 1000 by omega)
          have d1 : decide ((n : Int) < 1000) = false := decide_eq_false (by omega)
          go_wp2_with fail
          refine (two_Set_many nought_framed HT.out HK.out (by decide) (by decide) (full_no hn HN.out) ((fullL_len n).trans HE.out)).mono ?_
          rintro e w2 ⟨rfl, H, _⟩
          have H2 := Aside0.mk H
          clear H HT
          go_wp2_with fail
          refine (two_Set nought_framed H2.out (key := 7) (d := 2) (by decide) (by decide) (by decide) (full_ok n hn) (.inl (full_has (by omega)))).mono ?_
          rintro e w3 ⟨rfl, H, _⟩
          have H3 := Aside0.mk (show Two w w3 (IsClock g (full7 n)) Nought (fun _ => False) from H)
          clear H H2
          go_wp2_with fail
          refine (two_Tick nought_framed H3.out (full7_ok (by omega) hn) (by show (0 : Int) < _; decide)).mono ?_
          rintro e w4 ⟨v4, rfl, hx, H, _⟩
          obtain ⟨A4, c4, rfl, hc4, hC4⟩ := hx.reads
          rw [full7_due (by omega) hn, show n - 1 = 999 by omega] at H ⊢
          have H4 := Aside0.mk H
          clear H H3 hx hc4 hC4
          go_wp2_with fail
          refine (two_Set nought_framed H4.out HK.out (by decide) (by decide) ((full7_ok (by omega) hn).tick (by show (0 : Int) < _; decide)) (.inr (full7_rest n))).mono ?_
          rintro e w5 ⟨rfl, H, _⟩
          have H5 := Aside0.mk H
          clear H H4
          go_wp2_with fail
          refine (alive21 _).mono ?_
          rintro e w9 ⟨rfl, hb⟩
          have HB := Aside0.mk hb
          clear hb
          go_wp2_with fail
          go_ret
          exact ⟨rfl, H5.out.below.trans (HB.out.mono H5.out.below.size)⟩
end Go.Proofs.Ytbmommikjiikaaa.P
