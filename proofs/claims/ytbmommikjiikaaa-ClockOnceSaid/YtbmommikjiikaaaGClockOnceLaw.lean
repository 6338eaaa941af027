/- ClockOnce's walk: each alarm is told at just its time, once, in the order of setting; no conditions beyond how a row reads. -/
import Derived.Test.YtbmommikjiikaaaGClockAlive
namespace Go.Proofs.Ytbmommikjiikaaa.P
open Go.RowKit Go.Proofs.YtbmommikjiikaaaW.PrintWords Go.Proofs.YtbmommikjiikaaaW.PrintLast Go.Proofs.YtbmommikjiikaaaW.PrintMore
set_option linter.unusedVariables false
set_option linter.unusedSimpArgs false

def onceE (l : List Int) (i : Nat) : En := ⟨(i : Int), l.getD i 0, (i : Int)⟩
def onceL (l : List Int) (n : Nat) : List En := (List.range n).map (onceE l)
def onceC (l : List Int) (n : Nat) : CK := ⟨0, n, onceL l n⟩
def onceT (l : List Int) (t : Nat) : CK := ⟨t, l.length, (onceL l l.length).filter (fun e => decide ((t : Int) < e.due))⟩
def wantL (l : List Int) (t : Int) (n : Nat) : List Int := ((onceL l n).filter (fun e => e.due == t)).map (·.key)
def toldN (l : List Int) (t : Nat) : Nat := ((onceL l l.length).filter (fun e => decide (e.due ≤ (t : Int)))).length
theorem onceL_len (l : List Int) (n : Nat) : (onceL l n).length = n := by unfold onceL; simp
theorem onceL_succ (l : List Int) (n : Nat) : onceL l (n + 1) = onceL l n ++ [onceE l n] := by
  unfold onceL
  rw [List.range_succ, List.map_append]
  rfl
theorem onceL_mem {l : List Int} {n : Nat} {e : En} (h : e ∈ onceL l n) : ∃ i, i < n ∧ e = onceE l i := by
  unfold onceL at h
  obtain ⟨i, hi, rfl⟩ := List.mem_map.1 h
  exact ⟨i, List.mem_range.1 hi, rfl⟩
theorem once_set (l : List Int) (n : Nat) : setC (onceC l n) (n : Int) (l.getD n 0) = onceC l (n + 1) := by
  have h : outL (onceL l n) (n : Int) = onceL l n := out_same (fun x hx => by
    obtain ⟨i, hi, rfl⟩ := onceL_mem hx
    show (i : Int) ≠ (n : Int)
    omega)
  show (⟨0, (n : Int) + 1, outL (onceL l n) (n : Int) ++ [⟨(n : Int), 0 + l.getD n 0, (n : Int)⟩]⟩ : CK) = ⟨0, ((n + 1 : Nat) : Int), onceL l (n + 1)⟩
  rw [h, onceL_succ, Int.zero_add]
  rfl
theorem once_ok (l : List Int) : ∀ n : Nat, n ≤ 50 → (∀ i, i < n → 1 ≤ l.getD i 0 ∧ l.getD i 0 ≤ 100) → COk (onceC l n)
  | 0, _, _ => COk.c0
  | n + 1, h, ha => by
    rw [← once_set l n]
    have := ha n (by omega)
    exact (once_ok l n (by omega) (fun i hi => ha i (by omega))).set (wfI _ (by omega) (by omega)) this.1 (by omega) (by show (n : Int) < _; omega) (.inr (by show (onceL l n).length < 1000; rw [onceL_len]; omega))
theorem once_start {l : List Int} (ha : ∀ i, i < l.length → 1 ≤ l.getD i 0 ∧ l.getD i 0 ≤ 100) : onceC l l.length = onceT l 0 := by
  unfold onceC onceT
  have : (onceL l l.length).filter (fun e => decide (((0 : Nat) : Int) < e.due)) = onceL l l.length := List.filter_eq_self.2 (fun e he => by
    obtain ⟨i, hi, rfl⟩ := onceL_mem he
    have := ha i hi
    exact decide_eq_true (show (0 : Int) < l.getD i 0 by omega))
  rw [this]
  rfl
theorem once_tick (l : List Int) (t : Nat) : tickC (onceT l t) = onceT l (t + 1) := by
  unfold tickC onceT restL
  simp only [CK.mk.injEq, true_and]
  refine ⟨by omega, ?_⟩
  rw [List.filter_filter]
  refine List.filter_congr (fun e _ => ?_)
  by_cases h1 : (t : Int) < e.due
  · by_cases h2 : e.due = (t : Int) + 1
    · simp [h2]
    · have h3 : ((t + 1 : Nat) : Int) < e.due := by omega
      have h4 : (e.due == (t : Int) + 1) = false := beq_eq_false_iff_ne.mpr h2
      rw [decide_eq_true h1, decide_eq_true h3, h4]
      rfl
  · have h3 : ¬ ((t + 1 : Nat) : Int) < e.due := by omega
    rw [decide_eq_false h1, decide_eq_false h3]
    simp
theorem once_due (l : List Int) (t : Nat) : (dueL (onceT l t).L ((onceT l t).now + 1)).map (·.key) = wantL l ((t : Int) + 1) l.length := by
  unfold dueL onceT wantL
  simp only
  rw [List.filter_filter]
  congr 1
  refine List.filter_congr (fun e _ => ?_)
  by_cases h2 : e.due = (t : Int) + 1
  · have : (t : Int) < e.due := by omega
    rw [decide_eq_true this]
    simp
  · have h4 : (e.due == (t : Int) + 1) = false := beq_eq_false_iff_ne.mpr h2
    rw [h4]
    rfl
theorem want_succ (l : List Int) (t : Int) (n : Nat) : wantL l t (n + 1) = wantL l t n ++ (if l.getD n 0 = t then [(n : Int)] else []) := by
  unfold wantL
  rw [onceL_succ, List.filter_append, List.map_append]
  congr 1
  by_cases h : l.getD n 0 = t
  · rw [if_pos h]
    have h3 : ([onceE l n]).filter (fun e => e.due == t) = [onceE l n] := by
      rw [List.filter_cons_of_pos (by show (l.getD n 0 == t) = true; rw [h]; simp)]
      rfl
    rw [h3]
    rfl
  · rw [if_neg h]
    have : ((onceE l n).due == t) = false := beq_eq_false_iff_ne.mpr h
    simp [this]
theorem want_len (l : List Int) (t : Int) (n : Nat) : (wantL l t n).length ≤ n := by
  unfold wantL
  rw [List.length_map]
  exact Nat.le_trans (List.length_filter_le _ _) (Nat.le_of_eq (onceL_len l n))
theorem told_len (l : List Int) (t : Nat) : toldN l t ≤ l.length := by
  unfold toldN
  exact Nat.le_trans (List.length_filter_le _ _) (Nat.le_of_eq (onceL_len l l.length))
theorem told_zero {l : List Int} (ha : ∀ i, i < l.length → 1 ≤ l.getD i 0 ∧ l.getD i 0 ≤ 100) : toldN l 0 = 0 := by
  unfold toldN
  rw [List.length_eq_zero_iff]
  refine List.filter_eq_nil_iff.2 (fun e he => ?_)
  obtain ⟨i, hi, rfl⟩ := onceL_mem he
  have := ha i hi
  have h2 : ¬ (onceE l i).due ≤ ((0 : Nat) : Int) := by show ¬ l.getD i 0 ≤ 0; omega
  simpa using h2
theorem told_all {l : List Int} (ha : ∀ i, i < l.length → 1 ≤ l.getD i 0 ∧ l.getD i 0 ≤ 100) : toldN l 100 = l.length := by
  unfold toldN
  rw [List.filter_eq_self.2 (fun e he => ?_), onceL_len]
  obtain ⟨i, hi, rfl⟩ := onceL_mem he
  have := ha i hi
  exact decide_eq_true (show l.getD i 0 ≤ ((100 : Nat) : Int) by omega)
theorem count_split (L : List En) (t : Int) : (L.filter (fun e => decide (e.due ≤ t + 1))).length = (L.filter (fun e => decide (e.due ≤ t))).length + (L.filter (fun e => e.due == t + 1)).length := by
  induction L with
  | nil => rfl
  | cons a L ih =>
    simp only [List.filter_cons]
    by_cases h1 : a.due ≤ t
    · have h2 : a.due ≤ t + 1 := by omega
      have h3 : (a.due == t + 1) = false := beq_eq_false_iff_ne.mpr (by omega)
      simp only [decide_eq_true h1, decide_eq_true h2, h3, if_true, List.length_cons, Bool.false_eq_true, if_false]
      omega
    · by_cases h2 : a.due = t + 1
      · have h3 : a.due ≤ t + 1 := by omega
        have h4 : (a.due == t + 1) = true := beq_iff_eq.mpr h2
        simp only [decide_eq_false h1, decide_eq_true h3, h4, if_true, List.length_cons, Bool.false_eq_true, if_false]
        omega
      · have h3 : ¬ a.due ≤ t + 1 := by omega
        have h4 : (a.due == t + 1) = false := beq_eq_false_iff_ne.mpr h2
        simp only [decide_eq_false h1, decide_eq_false h3, h4, Bool.false_eq_true, if_false]
        omega
theorem told_succ (l : List Int) (t : Nat) : toldN l (t + 1) = toldN l t + (wantL l ((t : Int) + 1) l.length).length := by
  unfold toldN wantL
  rw [List.length_map, show ((t + 1 : Nat) : Int) = (t : Int) + 1 by omega]
  exact count_split _ _
theorem onceT_ok {l : List Int} (hl : l.length ≤ 50) (ha : ∀ i, i < l.length → 1 ≤ l.getD i 0 ∧ l.getD i 0 ≤ 100) : ∀ t : Nat, t ≤ 1000 → COk (onceT l t)
  | 0, _ => by
    rw [← once_start ha]
    exact once_ok l l.length hl ha
  | t + 1, h => by
    rw [← once_tick]
    exact (onceT_ok hl ha t (by omega)).tick (by show (t : Int) < _; omega)
theorem once_end {l : List Int} (ha : ∀ i, i < l.length → 1 ≤ l.getD i 0 ∧ l.getD i 0 ≤ 100) : (onceT l 100).L = [] := by
  unfold onceT
  refine List.filter_eq_nil_iff.2 (fun e he => ?_)
  obtain ⟨i, hi, rfl⟩ := onceL_mem he
  have := ha i hi
  have h2 : ¬ ((100 : Nat) : Int) < (onceE l i).due := by show ¬ ((100 : Nat) : Int) < l.getD i 0; omega
  simpa using h2
theorem once_next {l : List Int} {t : Nat} {n : Int} {b : Bool} (h : LeastL (onceT l t).L n b) (hb : b = true) : ¬ n < (t : Int) + 1 := by
  rcases h with ⟨h, _⟩ | ⟨_, ⟨e, he, rfl⟩, _⟩
  · rw [hb] at h
    cases h
  · have := of_decide_eq_true (List.mem_filter.1 he).2
    omega
set_option maxHeartbeats 16000000 in
set_option maxRecDepth 100000 in
theorem clockonce_law (A : Option Addr) (cp : Nat) (l : List Int) (w : World) (hC : Kd.C (Kd.int .i64) w A l.length l) (hc : l.length ≤ cp) : Calls Try.prog 5 #[.slice A l.length cp] w fun e w' => e = .returned (.bool true) ∧ Below w.heap.size w w' := by
  have HC := Aside0.mk hC
  clear hC hc
  by_cases hl : l.length ≤ 50
  · have d1 : decide ((l.length : Int) > 50) = false := decide_eq_false (by omega)
    have HL := Aside0.mk hl
    clear hl
    go_enter Try.func5, Try.ntmps5
    go_wp2_with fail
    clear d1
    refine (two_New nought_framed (Two.start w)).mono ?_
    rintro e w1 ⟨g, rfl, H, _⟩
    have H1 := Aside0.mk H
    clear H
    go_wp2_with fail
    go_loopw [22] (fun v wr => ∃ n : Nat, n ≤ l.length ∧ v = .int .i64 n ∧ Aside0 (Two w wr (IsClock g (onceC l n)) Nought (fun _ => False)) ∧ Aside0 (∀ i, i < n → 1 ≤ l.getD i 0 ∧ l.getD i 0 ≤ 100)) (fun v _ => l.length + 1 - (intOf v).toNat)
    case atStart => exact ⟨0, by omega, rfl, ⟨H1.out⟩, ⟨fun i hi => by omega⟩⟩
    case round =>
      obtain ⟨n, hn, rfl, HT, HA⟩ := hrel
      clear H1
      by_cases hlt : n < l.length
      · have d1 : decide ((n : Int) < (l.length : Int)) = true := decide_eq_true (by omega)
        have j1 : (n : Int) < (l.length : Int) := by omega
        obtain ⟨ad, rfl, k0⟩ := Kd.at_int (Kd.C_below HC.out HT.out.below) (n : Int) (by omega) j1
        obtain ⟨x, hx⟩ : ∃ x, x = l.getD n 0 := ⟨_, rfl⟩
        have hrd : rd l (n : Int) = x := by rw [hx]; unfold rd; rw [Int.toNat_natCast]
        rw [hrd, Int.toNat_natCast] at k0
        have HX := Aside0.mk hx
        clear hx hrd
        by_cases h1 : x < 1
        · have d2 : decide (x < 1) = true := decide_eq_true h1
          clear h1
          go_wp2_with fail
          refine (alive21 _).mono ?_
          rintro e w9 ⟨rfl, hb⟩
          have HB := Aside0.mk hb
          clear hb
          go_wp2_with fail
          go_ret
          exact ⟨rfl, HT.out.below.trans (HB.out.mono HT.out.below.size)⟩
        · by_cases h2 : x > 100
          · have d2 : decide (x < 1) = false := decide_eq_false h1
            have d3 : decide (x > 100) = true := decide_eq_true h2
            clear h1 h2
            go_wp2_with fail
            refine (alive21 _).mono ?_
            rintro e w9 ⟨rfl, hb⟩
            have HB := Aside0.mk hb
            clear hb
            go_wp2_with fail
            go_ret
            exact ⟨rfl, HT.out.below.trans (HB.out.mono HT.out.below.size)⟩
          · have d2 : decide (x < 1) = false := decide_eq_false h1
            have d3 : decide (x > 100) = false := decide_eq_false h2
            have HX2 := Aside0.mk (show 1 ≤ x ∧ x ≤ 100 from ⟨by omega, by omega⟩)
            clear h1 h2
            go_wp2_with fail
            refine (two_Set nought_framed HT.out (key := n) (d := x) (wfI _ (by omega) (by have := HL.out; omega)) HX2.out.1 (by have := HX2.out; omega) (once_ok l n (by have := HL.out; omega) HA.out) (.inr (by show (onceL l n).length < 1000; rw [onceL_len]; have := HL.out; omega))).mono ?_
            rintro e w2 ⟨rfl, H, _⟩
            rw [HX.out, once_set] at H
            have H2 := Aside0.mk H
            have HA2 := Aside0.mk (show ∀ i, i < n + 1 → 1 ≤ l.getD i 0 ∧ l.getD i 0 ≤ 100 from fun i hi => by
              by_cases hi2 : i = n
              · rw [hi2, ← HX.out]
                exact HX2.out
              · exact HA.out i (by omega))
            have HW := Aside0.mk (show wrap64 ((n : Int) + 1) = ((n + 1 : Nat) : Int) from wrap_succ n (by have := HL.out; omega))
            have HM := Aside0.mk (meas_succ hlt (by have := HL.out; omega))
            clear H HT HA
            go_wp2_with fail
            exact ⟨⟨n + 1, by omega, congrArg _ HW.out, H2, HA2⟩, HM.out⟩
      · obtain rfl : n = l.length := by omega
        have d1 : decide ((l.length : Int) < (l.length : Int)) = false := decide_eq_false (by omega)
        have hT := HT.out
        rw [once_start HA.out] at hT
        have HT0 := Aside0.mk hT
        clear hT HT
        go_wp2_with fail
        clear d1
        go_loopw [6, 7] (fun v6 v7 wr => ∃ t : Nat, t ≤ 100 ∧ v6 = .int .i64 (toldN l t) ∧ v7 = .int .i64 ((t : Int) + 1) ∧ Aside0 (Two w wr (IsClock g (onceT l t)) Nought (fun _ => False))) (fun _ v _ => 102 - (intOf v).toNat)
        case atStart => exact ⟨0, by omega, by rw [told_zero HA.out]; rfl, rfl, ⟨HT0.out⟩⟩
        case round =>
          obtain ⟨t, ht, rfl, rfl, HT⟩ := hrel
          clear HT0
          by_cases hlt2 : t < 100
          · have d1 : decide ((t : Int) + 1 ≤ 100) = true := decide_eq_true (by omega)
            go_wp2_with fail
            go_loopw [8, 46] (fun v8 v46 wr2 => ∃ n : Nat, n ≤ l.length ∧ v46 = .int .i64 n ∧ Aside0 (RowX (Kd.int .i64) 3 wr2 v8 (wantL l ((t : Int) + 1) n) ∧ (∀ k, v8.ownBlock = some k → w.heap.size ≤ k) ∧ Two w wr2 (IsClock g (onceT l t)) Nought (fun k => v8.ownBlock = some k))) (fun _ v _ => l.length + 1 - (intOf v).toNat)
            case atStart => exact ⟨0, by omega, rfl, ⟨RowX.nil _ _ _, fun k hk => by simp [Value.ownBlock] at hk, HT.out.less (fun k hk => by simp [Value.ownBlock] at hk)⟩⟩
            case round =>
              obtain ⟨n, hn, rfl, HQ⟩ := hrel
              by_cases hlt : n < l.length
              · have d2 : decide ((n : Int) < (l.length : Int)) = true := decide_eq_true (by omega)
                have j1 : (n : Int) < (l.length : Int) := by omega
                obtain ⟨ad, rfl, k0⟩ := Kd.at_int (Kd.C_below HC.out HQ.out.2.2.below) (n : Int) (by omega) j1
                obtain ⟨x, hx⟩ : ∃ x, x = l.getD n 0 := ⟨_, rfl⟩
                have hrd : rd l (n : Int) = x := by rw [hx]; unfold rd; rw [Int.toNat_natCast]
                rw [hrd, Int.toNat_natCast] at k0
                have HX := Aside0.mk hx
                have HW := Aside0.mk (show wrap64 ((n : Int) + 1) = ((n + 1 : Nat) : Int) from wrap_succ n (by have := HL.out; omega))
                have HM := Aside0.mk (meas_succ hlt (by have := HL.out; omega))
                clear hx hrd
                by_cases he : x = (t : Int) + 1
                · have d3 : (x == (t : Int) + 1) = true := beq_iff_eq.mpr he
                  have HS := Aside0.mk (show wantL l ((t : Int) + 1) (n + 1) = wantL l ((t : Int) + 1) n ++ [(n : Int)] by rw [want_succ, if_pos (by rw [← HX.out, he])])
                  clear he
                  go_wp2_with (at_builtin; go_loud (refine Kd.R_append (Kd.int .i64) (W := wr) (w0 := wr) 0 rfl (.tmp 54) (.tmp 56) 27 3 (.int .i64 0) 8 rfl Try.underlying27 info3' rfl (by decide) (by decide) u8 (wantL l ((t : Int) + 1) n) (n : Int) _ (fun x => u8.ownBlock = some x ∨ wr.heap.size ≤ x) (fun _ => False) rfl rfl rfl (fun _ hk => hk.elim) (fun x hx => .inr hx) (HQ.out.1.R (fun x hx => .inl hx)) (Below.refl _ _) (Nat.zero_le _) (by have := want_len l ((t : Int) + 1) n; have := HL.out; omega) ?_))
                  intro v8 w8 hR hB hg hat
                  have HR9 := Aside0.mk (RowX.of_R rfl hR)
                  have T8 : Turn (fun k => u8.ownBlock = some k) wr w8 := (Turn.refl _ wr).grown hg (fun k hk => .inl hk)
                  have HN := Aside0.mk (show ∀ k, v8.ownBlock = some k → u8.ownBlock = some k ∨ (wr.heap.size ≤ k ∧ k < w8.heap.size) from fun k hk => by
                    rcases hat with h | ⟨b, hb, hl⟩
                    · exact .inl (by rw [← h]; exact hk)
                    · have h9 := HR9.out.lt hk
                      rw [hb] at hk
                      cases hk
                      exact .inr ⟨hl, h9⟩)
                  have H8 := Aside0.mk (HQ.out.2.2.turnY (cf _ _) nought_framed (Y := fun k => v8.ownBlock = some k) T8 (fun k hk => ⟨hk, HQ.out.2.1 k hk⟩) HN.out)
                  clear hR hB hg hat T8
                  go_wp2_with fail
                  exact ⟨⟨n + 1, by omega, congrArg _ HW.out, ⟨by rw [HS.out]; exact HR9.out, fun k hk => by
                    rcases HN.out k hk with h | h
                    · exact HQ.out.2.1 k h
                    · exact Nat.le_trans HQ.out.2.2.below.size h.1, H8.out⟩⟩, HM.out⟩
                · have d3 : (x == (t : Int) + 1) = false := beq_eq_false_iff_ne.mpr he
                  have HS := Aside0.mk (show wantL l ((t : Int) + 1) (n + 1) = wantL l ((t : Int) + 1) n by rw [want_succ, if_neg (by rw [← HX.out]; exact he), List.append_nil])
                  clear he
                  go_wp2_with fail
                  exact ⟨⟨n + 1, by omega, congrArg _ HW.out, ⟨by rw [HS.out]; exact HQ.out.1, HQ.out.2.1, HQ.out.2.2⟩⟩, HM.out⟩
              · obtain rfl : n = l.length := by omega
                have d2 : decide ((l.length : Int) < (l.length : Int)) = false := decide_eq_false (by omega)
                go_wp2_with fail
                refine (two_Next nought_framed HQ.out.2.2 (onceT_ok HL.out HA.out t (by omega))).mono ?_
                rintro e w5 ⟨⟨m, b, rfl, hm⟩, H, hk⟩
                have HX5 := Aside0.mk (hk.row HQ.out.1 (fun k hk => hk))
                have H5 := Aside0.mk H
                have HN := Aside0.mk (once_next hm)
                clear H hk hm d2
                obtain ⟨AW, cW, hvW, hcW, hCW⟩ := HX5.out.reads
                have HCW := Aside0.mk hCW
                have HcW := Aside0.mk hcW
                have HvW := Aside0.mk hvW
                clear hCW hcW
                have HX6 := Aside0.mk (show ∀ k, (Value.slice AW (wantL l ((t : Int) + 1) l.length).length cW).ownBlock = some k → u8.ownBlock = some k from fun k hk => by rw [hvW]; exact hk)
                rw [hvW]
                clear hvW
                have hb2 : b = false ∨ (b = true ∧ decide (m < (t : Int) + 1) = false) := by
                  cases b
                  · exact .inl rfl
                  · exact .inr ⟨rfl, decide_eq_false (HN.out rfl)⟩
                rcases hb2 with rfl | ⟨rfl, d3⟩
                all_goals
                  go_wp2_with fail
                  refine (two_Tick nought_framed H5.out (onceT_ok HL.out HA.out t (by omega)) (by show (t : Int) < _; omega)).mono ?_
                  rintro e w6 ⟨v6, rfl, hx, H, hk, _⟩
                  rw [once_due] at hx
                  rw [once_tick] at H
                  obtain ⟨A6, c6, rfl, hc6, hC6⟩ := hx.reads
                  have HC6 := Aside0.mk hC6
                  have Hc6 := Aside0.mk hc6
                  have HX7 := Aside0.mk ((hk.row HX5.out (fun k hk => hk)).reads)
                  have H6 := Aside0.mk H
                  clear H hx hk hC6 hc6
                  have HCW6 := Aside0.mk (show Kd.C (Kd.int .i64) w6 AW (wantL l ((t : Int) + 1) l.length).length (wantL l ((t : Int) + 1) l.length) by
                    obtain ⟨A9, c9, h9, _, hC9⟩ := HX7.out
                    rw [HvW.out] at h9
                    injection h9 with h91 h92 h93
                    rw [h91]
                    exact hC9)
                  clear HX7
                  go_wp2_with fail
                  refine (ints_calls HC6.out Hc6.out HCW6.out HcW.out (by have := want_len l ((t : Int) + 1) l.length; have := HL.out; omega)).mono ?_
                  rintro e w7 ⟨rfl, hb⟩
                  have H7 := Aside0.mk ((Two.quiet (cf _ _) nought_framed H6.out hb).less (Y := fun _ => False) (fun k hk => hk.elim))
                  have HW1 := Aside0.mk (show wrap64 ((toldN l t : Int) + ((wantL l ((t : Int) + 1) l.length).length : Int)) = ((toldN l (t + 1) : Nat) : Int) by
                    have h1 := told_succ l t
                    have h2 := told_len l (t + 1)
                    have h3 := HL.out
                    rw [w64_small _ (by omega) (by omega), h1]
                    omega)
                  have HW2 := Aside0.mk (show (t : Int) + 1 + 1 = ((t + 1 : Nat) : Int) + 1 by omega)
                  have HM2 := Aside0.mk (show ∀ x : Int, x = ((t + 1 : Nat) : Int) + 1 → 102 - (intOf (.int .i64 x)).toNat < 102 - (intOf (.int .i64 ((t : Int) + 1))).toNat by
                    rintro x rfl
                    show 102 - (((t + 1 : Nat) : Int) + 1).toNat < 102 - ((t : Int) + 1).toNat
                    omega)
                  clear hb H6
                  go_wp2_with fail
                  exact ⟨⟨t + 1, by omega, congrArg _ HW1.out, congrArg _ HW2.out, H7⟩, HM2.out _ HW2.out⟩
          · obtain rfl : t = 100 := by omega
            have d1 : decide (((100 : Nat) : Int) + 1 ≤ 100) = false := rfl
            rw [told_all HA.out]
            go_wp2_with fail
            refine (two_Next nought_framed HT.out (onceT_ok HL.out HA.out 100 (by omega))).mono ?_
            rintro e w5 ⟨⟨m, b, rfl, hm⟩, H, hk⟩
            obtain ⟨rfl, rfl⟩ : b = false ∧ m = 0 := by
              rcases hm with ⟨h1, h2, _⟩ | ⟨_, ⟨e, he, _⟩, _⟩
              · exact ⟨h1, h2⟩
              · rw [once_end HA.out] at he
                cases he
            have H5 := Aside0.mk H
            have j2 : ((l.length : Int) == (l.length : Int)) = true := beq_self_eq_true _
            clear H hk hm d1
            go_wp2_with fail
            refine (two_Len H5.out).mono ?_
            rintro e w6 ⟨rfl, rfl⟩
            rw [once_end HA.out]
            go_wp2_with fail
            refine (alive21 _).mono ?_
            rintro e w9 ⟨rfl, hb⟩
            have HB := Aside0.mk hb
            clear hb
            go_wp2_with fail
            go_ret
            exact ⟨rfl, H5.out.below.trans (HB.out.mono H5.out.below.size)⟩
  · have d1 : decide ((l.length : Int) > 50) = true := decide_eq_true (by omega)
    go_enter Try.func5, Try.ntmps5
    go_wp2_with fail
    refine (alive21 _).mono ?_
    rintro e w9 ⟨rfl, hb⟩
    go_wp2_with fail
    go_ret
    exact ⟨rfl, hb⟩
end Go.Proofs.Ytbmommikjiikaaa.P
