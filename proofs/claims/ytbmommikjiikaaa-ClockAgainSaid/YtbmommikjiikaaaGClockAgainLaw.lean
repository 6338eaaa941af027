/- ClockAgain's walk: what is set again is due at its new time alone; the arguments are numbers of 64 bits. -/
import Derived.Test.YtbmommikjiikaaaGClockAlive
namespace Go.Proofs.Ytbmommikjiikaaa.P
open Go.RowKit Go.Proofs.YtbmommikjiikaaaW.PrintWords Go.Proofs.YtbmommikjiikaaaW.PrintLast Go.Proofs.YtbmommikjiikaaaW.PrintMore
set_option linter.unusedVariables false
set_option linter.unusedSimpArgs false

def oneC (now a : Int) : CK := ⟨now, 1, [⟨1, a, 0⟩]⟩
def noneC (now : Int) : CK := ⟨now, 1, []⟩
def newC (bt b : Int) (t : Nat) : CK := ⟨bt + t, 2, if (t : Int) < b then [⟨1, bt + b, 1⟩] else []⟩
theorem one_start (a : Int) : setC c0 1 a = oneC 0 a := by
  show (⟨0, 0 + 1, [⟨1, 0 + a, 0⟩]⟩ : CK) = ⟨0, 1, [⟨1, a, 0⟩]⟩
  rw [Int.zero_add, Int.zero_add]
theorem one_due {now a : Int} (h : now + 1 ≠ a) : ((dueL (oneC now a).L ((oneC now a).now + 1)).map (·.key)).length = 0 := by
  unfold oneC dueL
  have : (a == now + 1) = false := beq_eq_false_iff_ne.mpr (fun e => h e.symm)
  simp [this]
theorem one_tick {now a : Int} (h : now + 1 ≠ a) : tickC (oneC now a) = oneC (now + 1) a := by
  unfold tickC oneC restL
  have : (a == now + 1) = false := beq_eq_false_iff_ne.mpr (fun e => h e.symm)
  simp [this]
theorem one_set (now a b : Int) : setC (oneC now a) 1 b = ⟨now, 2, [⟨1, now + b, 1⟩]⟩ := rfl
theorem one_new {bt a b : Int} (hb : 1 ≤ b) : setC (oneC bt a) 1 b = newC bt b 0 := by
  rw [one_set]
  unfold newC
  rw [if_pos (by omega)]
  simp
theorem one_cancel (bt a : Int) : cancelC (oneC bt a) 1 = noneC bt := rfl
theorem one_has (bt a : Int) : hasK (oneC bt a).L 1 = true := rfl
theorem none_has (bt : Int) : hasK (noneC bt).L 1 = false := rfl
theorem none_due (bt : Int) : ((dueL (noneC bt).L ((noneC bt).now + 1)).map (·.key)).length = 0 := rfl
theorem none_tick (bt : Int) : tickC (noneC bt) = noneC (bt + 1) := rfl
theorem new_due (bt b : Int) (t : Nat) : ((dueL (newC bt b t).L ((newC bt b t).now + 1)).map (·.key)).length = if (t : Int) + 1 = b then 1 else 0 := by
  unfold newC dueL
  by_cases h : (t : Int) + 1 = b
  · rw [if_pos h, if_pos (by omega)]
    have : (bt + b == bt + (t : Int) + 1) = true := beq_iff_eq.mpr (by omega)
    simp [this]
  · rw [if_neg h]
    by_cases h2 : (t : Int) < b
    · rw [if_pos h2]
      have : (bt + b == bt + (t : Int) + 1) = false := beq_eq_false_iff_ne.mpr (by omega)
      simp [this]
    · rw [if_neg h2]
      rfl
theorem new_tick (bt b : Int) (t : Nat) : tickC (newC bt b t) = newC bt b (t + 1) := by
  unfold tickC newC restL
  simp only [CK.mk.injEq, true_and]
  refine ⟨by omega, ?_⟩
  by_cases h : (t : Int) + 1 = b
  · rw [if_pos (by omega), if_neg (by omega)]
    have : (bt + b == bt + (t : Int) + 1) = true := beq_iff_eq.mpr (by omega)
    simp [this]
  · by_cases h2 : (t : Int) < b
    · rw [if_pos h2, if_pos (by omega)]
      have : (bt + b == bt + (t : Int) + 1) = false := beq_eq_false_iff_ne.mpr (by omega)
      simp [this]
    · rw [if_neg h2, if_neg (by omega)]
      rfl
theorem one_ok {now a : Int} (h0 : 0 ≤ now) (h1 : now < a) (h2 : a ≤ 1000) : COk (oneC now a) :=
  ⟨h0, by show now ≤ _; omega, by show (0 : Int) ≤ 1; decide, by show (1 : Int) ≤ _; decide, by show 1 ≤ 1000; decide, List.pairwise_singleton _ _, List.pairwise_singleton _ _,
    fun e he => by rw [List.mem_singleton.1 he]; rfl, fun e he => by rw [List.mem_singleton.1 he]; exact ⟨h1, by show a ≤ _; omega⟩, fun e he => by rw [List.mem_singleton.1 he]; exact ⟨by show (0 : Int) ≤ 0; decide, by show (0 : Int) < 1; decide⟩⟩
theorem none_ok {now : Int} (h0 : 0 ≤ now) (h1 : now ≤ 1000) : COk (noneC now) :=
  ⟨h0, by show now ≤ _; omega, by show (0 : Int) ≤ 1; decide, by show (1 : Int) ≤ _; decide, by show 0 ≤ 1000; decide, List.Pairwise.nil, List.Pairwise.nil,
    fun e he => (by cases he), fun e he => (by cases he), fun e he => (by cases he)⟩
theorem new_ok {bt a b : Int} (h0 : 0 ≤ bt) (h1 : bt < a) (h2 : a ≤ 1000) (hb : 1 ≤ b) (hb2 : b ≤ 1000) : ∀ t : Nat, t ≤ 1000 → COk (newC bt b t)
  | 0, _ => by
    rw [← one_new (bt := bt) (a := a) hb]
    exact (one_ok h0 h1 h2).set (by decide) hb (by omega) (by show (1 : Int) < _; decide) (.inl (one_has bt a))
  | t + 1, h => by
    rw [← new_tick]
    exact (new_ok h0 h1 h2 hb hb2 t (by omega)).tick (by show bt + (t : Int) < _; omega)
set_option maxHeartbeats 16000000 in
set_option maxRecDepth 100000 in
theorem clockagain_law (a b n : Int) (w : World) : Calls Try.prog 4 #[.int .i64 a, .int .i64 b, .int .i64 n] w fun e w' => e = .returned (.bool true) ∧ Below w.heap.size w w' := by
  have hs : (decide (a < 1) = true ∨ (decide (a < 1) = false ∧ decide (b < 1) = true) ∨ (decide (a < 1) = false ∧ decide (b < 1) = false ∧ decide (a > 100) = true) ∨ (decide (a < 1) = false ∧ decide (b < 1) = false ∧ decide (a > 100) = false ∧ decide (b > 100) = true) ∨ (decide (a < 1) = false ∧ decide (b < 1) = false ∧ decide (a > 100) = false ∧ decide (b > 100) = false ∧ decide (n < 0) = true)
      ∨ (decide (a < 1) = false ∧ decide (b < 1) = false ∧ decide (a > 100) = false ∧ decide (b > 100) = false ∧ decide (n < 0) = false ∧ decide (n > 100) = true) ∨ (decide (a < 1) = false ∧ decide (b < 1) = false ∧ decide (a > 100) = false ∧ decide (b > 100) = false ∧ decide (n < 0) = false ∧ decide (n > 100) = false ∧ decide (n ≥ a) = true))
      ∨ (¬ a < 1 ∧ ¬ b < 1 ∧ ¬ a > 100 ∧ ¬ b > 100 ∧ ¬ n < 0 ∧ ¬ n > 100 ∧ ¬ n ≥ a) := by
    by_cases h1 : a < 1
    · simp [h1]
    by_cases h2 : b < 1
    · simp [h1, h2]
    by_cases h3 : a > 100
    · simp [h1, h2, h3]
    by_cases h4 : b > 100
    · simp [h1, h2, h3, h4]
    by_cases h5 : n < 0
    · simp [h1, h2, h3, h4, h5]
    by_cases h6 : n > 100
    · simp [h1, h2, h3, h4, h5, h6]
    by_cases h7 : n ≥ a
    · simp [h1, h2, h3, h4, h5, h6, h7]
    exact .inr ⟨h1, h2, h3, h4, h5, h6, h7⟩
  rcases hs with hs | ⟨h1, h2, h3, h4, h5, h6, h7⟩
  · rcases hs with d1 | ⟨d1, d2⟩ | ⟨d1, d2, d3⟩ | ⟨d1, d2, d3, d4⟩ | ⟨d1, d2, d3, d4, d5⟩ | ⟨d1, d2, d3, d4, d5, d6⟩ | ⟨d1, d2, d3, d4, d5, d6, d7⟩
    all_goals
      go_enter Try.func4, Try.ntmps4
      go_wp2_with fail
      refine (alive21 _).mono ?_
      rintro e w9 ⟨rfl, hb⟩
      go_wp2_with fail
      go_ret
      exact ⟨rfl, hb⟩
  have d1 := decide_eq_false h1
  have d2 := decide_eq_false h2
  have d3 := decide_eq_false h3
  have d4 := decide_eq_false h4
  have d5 := decide_eq_false h5
  have d6 := decide_eq_false h6
  have d7 := decide_eq_false h7
  have HH := Aside0.mk (show 1 ≤ a ∧ 1 ≤ b ∧ a ≤ 100 ∧ b ≤ 100 ∧ 0 ≤ n ∧ n ≤ 100 ∧ n < a from ⟨by omega, by omega, by omega, by omega, by omega, by omega, by omega⟩)
  clear h1 h2 h3 h4 h5 h6 h7
  go_enter Try.func4, Try.ntmps4
  go_wp2_with fail
  clear d1 d2 d3 d4 d5 d6 d7
  refine (two_New nought_framed (Two.start w)).mono ?_
  rintro e w1 ⟨g, rfl, H, _⟩
  have H1 := Aside0.mk H
  clear H
  go_wp2_with fail
  refine (two_New2 (cf _ _) H1.out).mono ?_
  rintro e w2 ⟨h, rfl, H, _⟩
  have H2 := Aside0.mk H
  clear H H1
  go_wp2_with fail
  refine (two_Set (cf _ _) H2.out (key := 1) (d := a) (by decide) HH.out.1 (by have := HH.out; omega) COk.c0 (.inr (by decide))).mono ?_
  rintro e w3 ⟨rfl, H, _⟩
  rw [one_start] at H
  have H3 := Aside0.mk H
  clear H H2
  go_wp2_with fail
  refine (two_Set2 (cf _ _) H3.out (key := 1) (d := a) (by decide) HH.out.1 (by have := HH.out; omega) COk.c0 (.inr (by decide))).mono ?_
  rintro e w4 ⟨rfl, H, _⟩
  rw [one_start] at H
  have H4 := Aside0.mk H
  clear H H3
  go_wp2_with fail
  go_loopw [48] (fun v wr => ∃ j : Nat, Aside0 ((j : Int) ≤ n) ∧ v = .int .i64 j ∧ Aside0 (∃ X, Two w wr (IsClock g (oneC j a)) (IsClock h (oneC j a)) X)) (fun v _ => n.toNat + 1 - (intOf v).toNat)
  case atStart => exact ⟨0, ⟨HH.out.2.2.2.2.1⟩, rfl, ⟨⟨_, H4.out⟩⟩⟩
  case round =>
    obtain ⟨j, hj, rfl, HT⟩ := hrel
    obtain ⟨X, hT⟩ := HT.out
    have HT := Aside0.mk hT
    clear hT
    by_cases hlt : (j : Int) < n
    · have d1 : decide ((j : Int) < n) = true := decide_eq_true hlt
      have HL := Aside0.mk hlt
      clear hlt
      go_wp2_with fail
      refine (two_Tick (cf _ _) HT.out (one_ok (by omega) (by have := HH.out; have := HL.out; omega) (by have := HH.out; omega)) (by show (j : Int) < _; have := HH.out; have := HL.out; omega)).mono ?_
      rintro e w5 ⟨v5, rfl, hx, H, _⟩
      obtain ⟨A5, c5, rfl, _, _⟩ := hx.reads
      have hne : (j : Int) + 1 ≠ a := by have := HH.out; have := HL.out; omega
      rw [one_tick hne] at H
      rw [one_due hne] at H ⊢
      have HNe := Aside0.mk hne
      have H5 := Aside0.mk H
      clear H HT hx hne
      go_wp2_with fail
      refine (two_Tick2 (cf _ _) H5.out (one_ok (by omega) (by have := HH.out; have := HL.out; omega) (by have := HH.out; omega)) (by show (j : Int) < _; have := HH.out; have := HL.out; omega)).mono ?_
      rintro e w6 ⟨v6, rfl, hx, H, _⟩
      obtain ⟨A6, c6, rfl, _, _⟩ := hx.reads
      rw [one_tick HNe.out] at H
      rw [one_due HNe.out] at H ⊢
      have H6 := Aside0.mk H
      clear H H5 hx
      have HM := Aside0.mk (show j < n.toNat ∧ (j : Int) + 1 ≤ n by have := HL.out; omega)
      go_wp2_with fail
      have HW := Aside0.mk (show wrap64 ((j : Int) + 1) = ((j + 1 : Nat) : Int) from wrap_succ j (by have := HM.out; have := HH.out; omega))
      exact ⟨⟨j + 1, ⟨by have := HM.out; omega⟩, congrArg _ HW.out, ⟨⟨_, H6.out⟩⟩⟩, meas_succ HM.out.1 (by have := HM.out; have := HH.out; omega)⟩
    · have d1 : decide ((j : Int) < n) = false := decide_eq_false hlt
      have HE := Aside0.mk (show (j : Int) = n by have := hj.out; omega)
      clear hlt hj
      go_wp2_with fail
      refine (two_Set (cf _ _) HT.out (key := 1) (d := b) (by decide) HH.out.2.1 (by have := HH.out; omega) (one_ok (by omega) (by have := HH.out; have := HE.out; omega) (by have := HH.out; omega)) (.inl (one_has _ _))).mono ?_
      rintro e w5 ⟨rfl, H, _⟩
      rw [one_new HH.out.2.1] at H
      have H5 := Aside0.mk H
      clear H HT
      go_wp2_with fail
      refine (two_Cancel2 (cf _ _) H5.out (key := 1) (by decide) (one_ok (by omega) (by have := HH.out; have := HE.out; omega) (by have := HH.out; omega))).mono ?_
      rintro e w6 ⟨rfl, H, _⟩
      rw [one_cancel] at H
      rw [one_has]
      have H6 := Aside0.mk (show Two w w6 (IsClock g (newC j b 0)) (IsClock h (noneC ((j : Int) + ((0 : Nat) : Int)))) X by simpa using H)
      clear H H5 d1
      go_wp2_with fail
      go_loopw [10] (fun v wr => ∃ s : Nat, s ≤ 200 ∧ v = .int .i64 ((s : Int) + 1) ∧ Aside0 (∃ X, Two w wr (IsClock g (newC j b s)) (IsClock h (noneC ((j : Int) + (s : Int)))) X)) (fun v _ => 202 - (intOf v).toNat)
      case atStart => exact ⟨0, by omega, rfl, ⟨⟨_, H6.out⟩⟩⟩
      case round =>
        obtain ⟨s, hs, rfl, HT⟩ := hrel
        obtain ⟨X, hT⟩ := HT.out
        have HT := Aside0.mk hT
        clear hT H6
        by_cases hlt : s < 200
        · have d1 : decide ((s : Int) + 1 ≤ 200) = true := decide_eq_true (by omega)
          go_wp2_with fail
          refine (two_Tick (cf _ _) HT.out (new_ok (a := a) (by omega) (by have := HH.out; have := HE.out; omega) (by have := HH.out; omega) HH.out.2.1 (by have := HH.out; omega) s (by omega)) (by show (j : Int) + (s : Int) < _; have := HH.out; have := HE.out; omega)).mono ?_
          rintro e w5 ⟨v5, rfl, hx, H, _⟩
          obtain ⟨A5, c5, rfl, _, _⟩ := hx.reads
          rw [new_tick] at H
          rw [new_due] at H ⊢
          have H5 := Aside0.mk H
          have HW := Aside0.mk (show (s : Int) + 1 + 1 = ((s + 1 : Nat) : Int) + 1 by omega)
          have HM := Aside0.mk (show ∀ x : Int, x = ((s + 1 : Nat) : Int) + 1 → 202 - (intOf (.int .i64 x)).toNat < 202 - (intOf (.int .i64 ((s : Int) + 1))).toNat by
            rintro x rfl
            show 202 - (((s + 1 : Nat) : Int) + 1).toNat < 202 - ((s : Int) + 1).toNat
            omega)
          clear H HT hx
          by_cases hb : (s : Int) + 1 = b
          · have d2 : ((s : Int) + 1 == b) = true := beq_iff_eq.mpr hb
            rw [if_pos hb] at H5 ⊢
            clear hb
            go_wp2_with fail
            refine (two_Tick2 (cf _ _) H5.out (none_ok (by omega) (by have := HH.out; have := HE.out; omega)) (by show (j : Int) + (s : Int) < _; have := HH.out; have := HE.out; omega)).mono ?_
            rintro e w6 ⟨v6, rfl, hx, H, _⟩
            obtain ⟨A6, c6, rfl, _, _⟩ := hx.reads
            rw [none_tick] at H
            rw [none_due] at H ⊢
            have H6 := Aside0.mk (show ∃ X, Two w w6 (IsClock g (newC j b (s + 1))) (IsClock h (noneC ((j : Int) + ((s + 1 : Nat) : Int)))) X from ⟨_, by rw [show (j : Int) + ((s + 1 : Nat) : Int) = (j : Int) + (s : Int) + 1 by omega]; exact H⟩)
            clear H H5 hx
            go_wp2_with fail
            exact ⟨⟨s + 1, by omega, congrArg _ HW.out, H6⟩, HM.out _ HW.out⟩
          · have d2 : ((s : Int) + 1 == b) = false := beq_eq_false_iff_ne.mpr hb
            rw [if_neg hb] at H5 ⊢
            clear hb
            go_wp2_with fail
            refine (two_Tick2 (cf _ _) H5.out (none_ok (by omega) (by have := HH.out; have := HE.out; omega)) (by show (j : Int) + (s : Int) < _; have := HH.out; have := HE.out; omega)).mono ?_
            rintro e w6 ⟨v6, rfl, hx, H, _⟩
            obtain ⟨A6, c6, rfl, _, _⟩ := hx.reads
            rw [none_tick] at H
            rw [none_due] at H ⊢
            have H6 := Aside0.mk (show ∃ X, Two w w6 (IsClock g (newC j b (s + 1))) (IsClock h (noneC ((j : Int) + ((s + 1 : Nat) : Int)))) X from ⟨_, by rw [show (j : Int) + ((s + 1 : Nat) : Int) = (j : Int) + (s : Int) + 1 by omega]; exact H⟩)
            clear H H5 hx
            go_wp2_with fail
            exact ⟨⟨s + 1, by omega, congrArg _ HW.out, H6⟩, HM.out _ HW.out⟩
        · have d1 : decide ((s : Int) + 1 ≤ 200) = false := decide_eq_false (by omega)
          go_wp2_with fail
          refine (two_Cancel2 (cf _ _) HT.out (key := 1) (by decide) (none_ok (by omega) (by have := HH.out; have := HE.out; omega))).mono ?_
          rintro e w6 ⟨rfl, H, _⟩
          rw [none_has]
          have H6 := Aside0.mk H.below
          clear H HT
          go_wp2_with fail
          refine (alive21 _).mono ?_
          rintro e w9 ⟨rfl, hb⟩
          have HB := Aside0.mk hb
          clear hb
          go_wp2_with fail
          go_ret
          exact ⟨rfl, H6.out.trans (HB.out.mono H6.out.size)⟩
end Go.Proofs.Ytbmommikjiikaaa.P
