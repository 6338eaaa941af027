/- GuardTakes over plain numbers and lists of texts; no conditions. -/
import Derived.Test.YthgnhhdblbiihaaPsignalboxlaw40GuardTakes
import Derived.Test.YthgnhhdblbiihaaGGuardRef
import Derived.Test.YthgnhhdblbiihaaPureGuardSeals
namespace Go.Proofs.Ythgnhhdblbiihaa.Pure
open Go.RowKit Go.Proofs.Ythgnhhdblbiihaa.P Go.Proofs.YthgnhhdblbiihaaW.PrintWords Go.Proofs.YthgnhhdblbiihaaW.PrintLast
set_option linter.unusedVariables false

theorem alive_k' (k : Nat) (h : 10 ≤ k) : signalboxlaw40_alive.f k = some true := by
  obtain ⟨j, rfl⟩ : ∃ j, k = j + 10 := ⟨k - 10, by omega⟩
  exact alive40 j
theorem few40_l (l : List ByteArray) (hl : l.length ≤ 4611686018427387904) : ∀ (d k i n : Nat), min l.length 101 - i = d → i ≤ l.length → i ≤ 101 → d < k → n ≤ 10000 * i → (n ≤ 2000 → ∀ (j : Nat) s, l[j]? = some s → j < i → s.size ≤ 2000) →
    ∃ b, signalboxref40_Few.l0 k l (n : Int) (i : Int) = some b ∧ (b = true → l.length ≤ 100 ∧ ∀ s ∈ l, s.size ≤ 2000)
  | 0, k, i, n, hd, hi, h7, hk, hn, hall => by
    obtain ⟨k, rfl⟩ : ∃ m, k = m + 1 := ⟨k - 1, by omega⟩
    simp only [signalboxref40_Few.l0]
    by_cases h : l.length ≤ 100
    · rw [if_neg (by omega), if_pos (by omega)]
      refine ⟨_, rfl, fun hb => ⟨h, fun s hs => ?_⟩⟩
      have hn6 : n ≤ 2000 := by simp only [decide_eq_true_eq] at hb; omega
      obtain ⟨j, hj⟩ := List.getElem?_of_mem hs
      exact hall hn6 j s hj (by have := (List.getElem?_eq_some_iff.1 hj).1; omega)
    · by_cases h' : i < l.length
      · rw [if_pos (by omega), if_neg (by omega), if_neg (by omega)]
        exact ⟨_, rfl, fun hb => by cases hb⟩
      · rw [if_neg (by omega), if_neg (by omega)]
        exact ⟨_, rfl, fun hb => by cases hb⟩
  | d + 1, k, i, n, hd, hi, h7, hk, hn, hall => by
    obtain ⟨k, rfl⟩ : ∃ m, k = m + 1 := ⟨k - 1, by omega⟩
    simp only [signalboxref40_Few.l0]
    have h1 : i < l.length := by omega
    rw [if_pos (by omega), if_pos (by omega), if_pos (by omega), show rdOf ByteArray.empty l (i : Int) = l[i] by simp [rdOf, h1], wrap_succ i (by omega)]
    have em : mn (l[i].size : Int) 5000 = ((min l[i].size 5000 : Nat) : Int) := by unfold mn; first | omega | (split <;> omega)
    rw [em, w64_small _ (by omega) (by omega), show (n : Int) + ((min l[i].size 5000 : Nat) : Int) = ((n + min l[i].size 5000 : Nat) : Int) from by omega]
    refine few40_l l hl d k (i + 1) (n + min l[i].size 5000) (by omega) (by omega) (by omega) (by omega) (by omega) (fun hn6 j s hj hji => ?_)
    rcases Nat.lt_or_ge j i with h | h
    · exact hall (by omega) j s hj h
    · have : j = i := by omega
      subst this
      have e : s = l[j] := by rw [List.getElem?_eq_getElem h1] at hj; exact (Option.some.inj hj).symm
      subst e
      omega
/-- A verdict, and the last counter behind it. -/
def stepV (id most last : Int) (s : ByteArray) : Int × Int :=
  if (openP id s).2.2 = 0 then
    (if last < 0 ∨ (if (openP id s).1 < last then (openP id s).1 + 15 - last else (openP id s).1 - last) = 1 then 1
     else if (if (openP id s).1 < last then (openP id s).1 + 15 - last else (openP id s).1 - last) = 0 then 2
     else if (if (openP id s).1 < last then (openP id s).1 + 15 - last else (openP id s).1 - last) ≤ most + 1 then 3 else 4, (openP id s).1)
  else (5, last)
def verd (id most : Int) : List ByteArray → Int → List Int × Int
  | [], last => ([], last)
  | s :: l, last => ((stepV id most last s).1 :: (verd id most l (stepV id most last s).2).1, (verd id most l (stepV id most last s).2).2)
theorem verd_drop (id most : Int) (l : List ByteArray) (i : Nat) (h : i < l.length) (last : Int) : verd id most (l.drop i) last = ((stepV id most last l[i]).1 :: (verd id most (l.drop (i + 1)) (stepV id most last l[i]).2).1, (verd id most (l.drop (i + 1)) (stepV id most last l[i]).2).2) := by
  rw [List.drop_eq_getElem_cons h]; rfl
theorem open_range (id : Int) (s : ByteArray) (h : (openP id s).2.2 = 0) : 0 ≤ (openP id s).1 ∧ (openP id s).1 ≤ 14 := by
  unfold openP at h ⊢
  by_cases hi : 0 ≤ id ∧ id ≤ 255
  · rw [if_pos hi] at h ⊢
    split
    · rename_i c
      have := (open_iff id s hi).1 c
      exact ⟨(bt_lt s 0).1, this.2.2.1⟩
    · rename_i c; rw [if_neg c] at h; exact absurd h (by decide)
  · rw [if_neg hi] at h; exact absurd h (by decide)
theorem stepV_range (id most last : Int) (s : ByteArray) (h : -1 ≤ last ∧ last ≤ 14) : -1 ≤ (stepV id most last s).2 ∧ (stepV id most last s).2 ≤ 14 := by
  unfold stepV
  split
  · rename_i c; have := open_range id s c; dsimp only; omega
  · exact h
theorem verdicts_l (id most : Int) (l : List ByteArray) (hm : 0 ≤ most ∧ most ≤ 13) (hl : l.length ≤ 100) (hz : ∀ s ∈ l, s.size ≤ 2000) : ∀ (d k i : Nat) (last : Int) (out : List Int), l.length - i = d → i ≤ l.length → 4 * d + 3000 < k → (-1 ≤ last ∧ last ≤ 14) → out.length ≤ i →
    signalboxref40_Verdicts.l0 k id most l last out (i : Int) = some (out ++ (verd id most (l.drop i) last).1, (verd id most (l.drop i) last).2)
  | 0, k, i, last, out, hd, hi, hk, hla, ho => by
    obtain ⟨k, rfl⟩ : ∃ m, k = m + 1 := ⟨k - 1, by omega⟩
    simp only [signalboxref40_Verdicts.l0]
    rw [if_neg (by omega), show i = l.length from by omega, List.drop_length]
    simp [verd]
  | d + 1, k, i, last, out, hd, hi, hk, hla, ho => by
    obtain ⟨k, rfl⟩ : ∃ m, k = m + 3 := ⟨k - 3, by omega⟩
    have h1 : i < l.length := by omega
    have h2 := hz l[i] (List.getElem_mem h1)
    have hr := stepV_range id most last l[i] hla
    simp only [signalboxref40_Verdicts.l0]
    rw [if_pos (by omega), if_pos (by omega), show rdOf ByteArray.empty l (i : Int) = l[i] by simp [rdOf, h1], refOpen_f id l[i] (by omega) _ (by omega), verd_drop id most l i h1 last]
    simp only [Option.bind_some]
    have fin : ∀ (k' : Nat), (4 * d + 3000 < k') → signalboxref40_Verdicts.l0 k' id most l (stepV id most last l[i]).2 (out ++ [(stepV id most last l[i]).1]) (wrap64 ((i : Int) + 1)) = some (out ++ ((stepV id most last l[i]).1 :: (verd id most (l.drop (i + 1)) (stepV id most last l[i]).2).1), (verd id most (l.drop (i + 1)) (stepV id most last l[i]).2).2) := by
      intro k' hk'
      rw [wrap_succ i (by omega), verdicts_l id most l hm hl hz d k' (i + 1) _ _ (by omega) (by omega) hk' hr (by simp; omega)]
      simp
    by_cases e : (openP id l[i]).2.2 = 0
    · rw [if_pos e]
      have rg := open_range id l[i] e
      have w1 : wrap64 ((openP id l[i]).1 + 15) = (openP id l[i]).1 + 15 := w64_small _ (by omega) (by omega)
      have w2 : wrap64 ((openP id l[i]).1 + 15 - last) = (openP id l[i]).1 + 15 - last := w64_small _ (by omega) (by omega)
      have w3 : wrap64 ((openP id l[i]).1 - last) = (openP id l[i]).1 - last := w64_small _ (by omega) (by omega)
      have w4 : wrap64 (most + 1) = most + 1 := w64_small _ (by omega) (by omega)
      rw [w1, w2, w3]
      have join : ∀ a : Int, a = (if (openP id l[i]).1 < last then (openP id l[i]).1 + 15 - last else (openP id l[i]).1 - last) → signalboxref40_Verdicts.j1 (k + 2) id most l last out (i : Int) (openP id l[i]).1 a = some (out ++ ((stepV id most last l[i]).1 :: (verd id most (l.drop (i + 1)) (stepV id most last l[i]).2).1), (verd id most (l.drop (i + 1)) (stepV id most last l[i]).2).2) := by
        intro a ea
        have es : stepV id most last l[i] = (if last < 0 ∨ a = 1 then 1 else if a = 0 then 2 else if a ≤ most + 1 then 3 else 4, (openP id l[i]).1) := by
          unfold stepV; rw [if_pos e, ← ea]
        have F := fin (k) (by omega)
        have J2 : ∀ b : Bool, (b = true ↔ (last < 0 ∨ a = 1)) → signalboxref40_Verdicts.j2 (k + 1) id most l out (i : Int) (openP id l[i]).1 a 4 b = some (out ++ ((stepV id most last l[i]).1 :: (verd id most (l.drop (i + 1)) (stepV id most last l[i]).2).1), (verd id most (l.drop (i + 1)) (stepV id most last l[i]).2).2) := by
          intro b hb
          simp only [signalboxref40_Verdicts.j2]
          rw [w4]
          by_cases hbt : b = true
          · rw [if_pos hbt, if_pos (by omega)]
            rw [es, if_pos (hb.1 hbt)] at F ⊢
            exact F
          · rw [if_neg hbt]
            have hnb : ¬ (last < 0 ∨ a = 1) := fun q => hbt (hb.2 q)
            by_cases ha0 : a = 0
            · rw [if_pos ha0, if_pos (by omega)]
              rw [es, if_neg hnb, if_pos ha0] at F ⊢
              exact F
            · rw [if_neg ha0]
              by_cases hle : a ≤ most + 1
              · rw [if_pos hle, if_pos (by omega)]
                rw [es, if_neg hnb, if_neg ha0, if_pos hle] at F ⊢
                exact F
              · rw [if_neg hle, if_pos (by omega)]
                rw [es, if_neg hnb, if_neg ha0, if_neg hle] at F ⊢
                exact F
        simp only [signalboxref40_Verdicts.j1]
        by_cases hl0 : last < 0
        · rw [if_pos hl0]; exact J2 true (by simp [hl0])
        · rw [if_neg hl0]; exact J2 _ (by simp only [beq_iff_eq]; omega)
      by_cases c : (openP id l[i]).1 < last
      · rw [if_pos c]; exact join _ (by rw [if_pos c])
      · rw [if_neg c]; exact join _ (by rw [if_neg c])
    · rw [if_neg e, if_pos (by omega)]
      have F := fin (k + 2) (by omega)
      have es : stepV id most last l[i] = (5, last) := by unfold stepV; rw [if_neg e]
      rw [es] at F ⊢
      exact F
theorem times_l (L : List Int) (n : Int) (hl : L.length ≤ 1000) : ∀ (d k i : Nat), L.length - i = d → i ≤ L.length → d < k →
    signalboxref40_Times.l0 k L n (((L.take i).count n : Nat) : Int) (i : Int) = some ((L.count n : Nat) : Int)
  | 0, k, i, hd, hi, hk => by
    obtain ⟨k, rfl⟩ : ∃ m, k = m + 1 := ⟨k - 1, by omega⟩
    simp only [signalboxref40_Times.l0]
    rw [if_neg (by omega), show i = L.length from by omega, List.take_length]
  | d + 1, k, i, hd, hi, hk => by
    obtain ⟨k, rfl⟩ : ∃ m, k = m + 1 := ⟨k - 1, by omega⟩
    have h1 : i < L.length := by omega
    have hc : (L.take i).count n ≤ 1000 := Nat.le_trans List.count_le_length (by rw [List.length_take]; omega)
    simp only [signalboxref40_Times.l0]
    have er : rd L (i : Int) = L[i] := by simp [rd, h1]
    have et : L.take (i + 1) = L.take i ++ [L[i]] := List.take_succ_eq_append_getElem h1
    have ih := times_l L n hl d k (i + 1) (by omega) (by omega) (by omega)
    rw [et, List.count_append] at ih
    rw [if_pos (by omega), if_pos (by omega), er, wrap_succ i (by omega)]
    by_cases e : L[i] = n
    · rw [if_pos e, wrap_succ _ (by omega)]
      rw [e, List.count_singleton_self] at ih
      exact ih
    · rw [if_neg e]
      have : [L[i]].count n = 0 := by simp [e]
      rw [this] at ih
      exact ih
theorem times_f (L : List Int) (n : Int) (hl : L.length ≤ 1000) (k : Nat) (hk : 1000 < k) : signalboxref40_Times.f k L n = some ((L.count n : Nat) : Int) :=
  times_l L n hl L.length k 0 (by omega) (by omega) (by omega)
theorem verdict_step (id most s2 last : Int) (any : Bool) (s : ByteArray) (hm : 0 ≤ most ∧ most ≤ 13) (hr : -1 ≤ last ∧ last ≤ 14) (ha : any = true ↔ 0 ≤ last) (hs : any = true → s2 = last) : verdictP id most s2 any s = (stepV id most last s).1 := by
  unfold verdictP stepV
  by_cases e : (openP id s).2.2 = 0
  · rw [if_pos e, if_pos e]
    have rg := open_range id s e
    generalize (openP id s).1 = c at rg
    dsimp only
    unfold judgeP
    dsimp only
    cases any with
    | false =>
      have : ¬ 0 ≤ last := fun h => by have := ha.2 h; cases this
      rw [if_pos (Or.inl rfl), if_pos (Or.inl (by omega))]
    | true =>
      obtain rfl := hs rfl
      have h0 := ha.1 rfl
      rw [w64_small (c - s2) (by omega) (by omega), w64_small (c - s2 + 15) (by omega) (by omega), w64_small (most + 1) (by omega) (by omega)]
      have et : Int.tmod (c - s2 + 15) 15 = if c < s2 then c + 15 - s2 else c - s2 := by
        rw [Int.tmod_eq_emod_of_nonneg (by omega)]
        split <;> omega
      rw [et]
      generalize (if c < s2 then c + 15 - s2 else c - s2) = a
      have : ¬ s2 < 0 := by omega
      simp [this]
  · rw [if_neg e, if_neg e]
theorem tick_count (pre : List Int) (v : Int) (j : Nat) (h : pre.length ≤ 1000) (hj : j < 5) : tick v j 5 ((pre.count ((j : Int) + 1) : Nat) : Int) = (((pre ++ [v]).count ((j : Int) + 1) : Nat) : Int) := by
  have hc : pre.count ((j : Int) + 1) ≤ 1000 := Nat.le_trans List.count_le_length h
  unfold tick
  rw [List.count_append]
  by_cases e : v = (j : Int) + 1
  · rw [if_pos ⟨e, hj⟩, wrap_succ _ (by omega), e, List.count_singleton_self]
  · rw [if_neg (fun q => e q.1)]
    have : [v].count ((j : Int) + 1) = 0 := by simp [e]
    rw [this]; rfl
theorem takes_l (id most : Int) (L : List ByteArray) (want : List Int) (fin : Int) (hm : 0 ≤ most ∧ most ≤ 13) (hl : L.length ≤ 100) (hz : ∀ s ∈ L, s.size ≤ 2000) : ∀ (d k i : Nat) (last s2 : Int) (any : Bool) (pre : List Int), L.length - i = d → i ≤ L.length → d + 2000 < k → want = pre ++ (verd id most (L.drop i) last).1 → fin = (verd id most (L.drop i) last).2 → pre.length = i → (-1 ≤ last ∧ last ≤ 14) → (any = true ↔ 0 ≤ last) → (any = true → s2 = last) →
    signalboxlaw40_GuardTakes.l0 k want fin L (L.length : Int) (i : Int) id most s2 any ((pre.count ((0 : Nat) + 1 : Int) : Nat) : Int) ((pre.count ((1 : Nat) + 1 : Int) : Nat) : Int) ((pre.count ((2 : Nat) + 1 : Int) : Nat) : Int) ((pre.count ((3 : Nat) + 1 : Int) : Nat) : Int) ((pre.count ((4 : Nat) + 1 : Int) : Nat) : Int) = some true
  | 0, k, i, last, s2, any, pre, hd, hi, hk, hw, hf, hp, hr, ha, hs => by
    obtain ⟨k, rfl⟩ : ∃ m, k = m + 2 := ⟨k - 2, by omega⟩
    rw [show L.drop i = [] from List.drop_eq_nil_of_le (by omega)] at hw hf
    simp only [verd, List.append_nil] at hw hf
    subst hw hf
    have fine : signalboxlaw40_GuardTakes.j1 (k + 1) want false ((want.count ((0 : Nat) + 1 : Int) : Nat) : Int) ((want.count ((1 : Nat) + 1 : Int) : Nat) : Int) ((want.count ((2 : Nat) + 1 : Int) : Nat) : Int) ((want.count ((3 : Nat) + 1 : Int) : Nat) : Int) ((want.count ((4 : Nat) + 1 : Int) : Nat) : Int) = some true := by
      simp only [signalboxlaw40_GuardTakes.j1]
      rw [times_f want 1 (by omega) k (by omega), times_f want 2 (by omega) k (by omega), times_f want 3 (by omega) k (by omega), times_f want 4 (by omega) k (by omega), times_f want 5 (by omega) k (by omega), alive_k' k (by omega)]
      simp
    simp only [signalboxlaw40_GuardTakes.l0]
    rw [if_neg (by omega)]
    unfold guard_Guard_Count.f guard_Guard_Last.f
    simp only [Option.bind_some]
    cases any with
    | true =>
      have h0 := ha.1 rfl
      obtain rfl := hs rfl
      have hd : decide (s2 ≥ 0) = true := decide_eq_true h0
      rw [hd]
      simp only [bne_self_eq_false, if_true]
      rw [if_neg (by decide)]
      exact fine
    | false =>
      have h0 : ¬ 0 ≤ fin := fun h => by have := ha.2 h; cases this
      have hd : decide (fin ≥ 0) = false := decide_eq_false h0
      rw [hd]
      rw [if_neg (by decide), if_neg (by decide), if_neg (by decide)]
      exact fine
  | d + 1, k, i, last, s2, any, pre, hd, hi, hk, hw, hf, hp, hr, ha, hs => by
    obtain ⟨k, rfl⟩ : ∃ m, k = m + 1 := ⟨k - 1, by omega⟩
    have h1 : i < L.length := by omega
    have h2 := hz L[i] (List.getElem_mem h1)
    have hv := verdict_step id most s2 last any L[i] hm hr ha hs
    have hr2 := stepV_range id most last L[i] hr
    rw [verd_drop id most L i h1 last] at hw hf
    simp only [signalboxlaw40_GuardTakes.l0]
    rw [if_pos (by omega), if_pos (by omega), if_pos (by omega), show rdOf ByteArray.empty L (i : Int) = L[i] by simp [rdOf, h1]]
    have T : guard_Guard_Take.f id most s2 any ((pre.count ((0 : Nat) + 1 : Int) : Nat) : Int) ((pre.count ((1 : Nat) + 1 : Int) : Nat) : Int) ((pre.count ((2 : Nat) + 1 : Int) : Nat) : Int) ((pre.count ((3 : Nat) + 1 : Int) : Nat) : Int) ((pre.count ((4 : Nat) + 1 : Int) : Nat) : Int) L[i] = some ((stepV id most last L[i]).1, id, most, if (openP id L[i]).2.2 = 0 then (openP id L[i]).1 else s2, if (openP id L[i]).2.2 = 0 then true else any,
        (((pre ++ [(stepV id most last L[i]).1]).count ((0 : Nat) + 1 : Int) : Nat) : Int), (((pre ++ [(stepV id most last L[i]).1]).count ((1 : Nat) + 1 : Int) : Nat) : Int), (((pre ++ [(stepV id most last L[i]).1]).count ((2 : Nat) + 1 : Int) : Nat) : Int), (((pre ++ [(stepV id most last L[i]).1]).count ((3 : Nat) + 1 : Int) : Nat) : Int), (((pre ++ [(stepV id most last L[i]).1]).count ((4 : Nat) + 1 : Int) : Nat) : Int)) := by
      unfold guard_Guard_Take.f
      rw [if_pos (by omega), hv, tick_count pre _ 0 (by omega) (by omega), tick_count pre _ 1 (by omega) (by omega), tick_count pre _ 2 (by omega) (by omega), tick_count pre _ 3 (by omega) (by omega), tick_count pre _ 4 (by omega) (by omega)]
    rw [T]
    simp only [Option.bind_some]
    have hwl : i < want.length := by rw [hw]; simp; omega
    have er : rd want (i : Int) = (stepV id most last L[i]).1 := by
      simp only [rd, Int.toNat_natCast]
      rw [hw, List.getD_eq_getElem?_getD, List.getElem?_append_right (by omega), hp, Nat.sub_self]
      rfl
    rw [if_pos (by omega), er, if_pos rfl, wrap_succ i (by omega)]
    refine takes_l id most L want fin hm hl hz d k (i + 1) (stepV id most last L[i]).2 _ _ (pre ++ [(stepV id most last L[i]).1]) (by omega) (by omega) (by omega) (by rw [hw]; simp) hf (by simp; omega) hr2 ?_ ?_
    · unfold stepV
      by_cases e : (openP id L[i]).2.2 = 0
      · have rg := open_range id L[i] e
        simp [e, rg.1]
      · simp [e, ha]
    · unfold stepV
      by_cases e : (openP id L[i]).2.2 = 0
      · simp [e]
      · simpa [e] using hs
theorem GuardTakes (id most : Int) (l : List ByteArray) (hl : l.length ≤ 4611686018427387904) : ∃ k, signalboxlaw40_GuardTakes.f k id most l = some true := by
  obtain ⟨K, hK⟩ : ∃ K, K = 10000 := ⟨_, rfl⟩
  refine ⟨K, ?_⟩
  unfold signalboxlaw40_GuardTakes.f
  obtain ⟨b, hb, hfew⟩ := few40_l l hl (min l.length 101) K 0 0 (by omega) (by omega) (by omega) (by omega) (by omega) (fun _ j s _ hj => absurd hj (Nat.not_lt_zero _))
  unfold signalboxref40_Few.f
  rw [show ((0 : Nat) : Int) = 0 from rfl] at hb
  rw [hb]
  simp only [Option.bind_some]
  cases b with
  | false => rw [if_neg (by decide), alive_k' K (by omega)]; rfl
  | true =>
    obtain ⟨h1, h2⟩ := hfew rfl
    rw [if_pos rfl]
    obtain ⟨id', most', hi, hm, en, e1, e2⟩ : ∃ id' most' : Int, (0 ≤ id' ∧ id' ≤ 255) ∧ (0 ≤ most' ∧ most' ≤ 13) ∧ guard_New.f id most = some (id', most', 0, false, 0, 0, 0, 0, 0) ∧ signalboxref40_cut.f id 0 255 = some id' ∧ signalboxref40_cut.f most 0 13 = some most' := by
      refine ⟨mn (mx id 0) 255, mn (mx most 0) 13, ?_, ?_, rfl, ?_, ?_⟩
      · unfold mn mx; split <;> split <;> omega
      · unfold mn mx; split <;> split <;> omega
      · unfold signalboxref40_cut.f mn mx; (repeat' split) <;> first | rfl | (congr 1; omega) | omega
      · unfold signalboxref40_cut.f mn mx; (repeat' split) <;> first | rfl | (congr 1; omega) | omega
    have ev := verdicts_l id' most' l hm h1 h2 l.length K 0 (-1) [] (by omega) (by omega) (by omega) (by omega) (by simp)
    rw [List.drop_zero, List.nil_append, show ((0 : Nat) : Int) = 0 from rfl] at ev
    unfold signalboxref40_Verdicts.f
    rw [en, e1, e2]
    simp only [Option.bind_some]
    rw [ev]
    simp only [Option.bind_some]
    have := takes_l id' most' l (verd id' most' l (-1)).1 (verd id' most' l (-1)).2 hm h1 h2 l.length K 0 (-1) 0 false [] (by omega) (by omega) (by omega) (by rw [List.drop_zero]; rfl) (by rw [List.drop_zero]) rfl (by omega) (by simp) (fun h => by cases h)
    exact this
theorem GuardTakesWalk (b0 b1 : Int) (A0 : Option Addr) (c0 : Nat) (l : List ByteArray) (hl : l.length ≤ 4611686018427387904) (w : World) (hr0 : Kd.C Kd.string w A0 l.length l) (hc0 : l.length ≤ c0) :
    Calls Try.prog 7 #[.int .i64 b0, .int .i64 b1, .slice A0 l.length c0] w fun e w' => e = .returned (.bool true) ∧ Below w.heap.size w w' := by
  obtain ⟨k, h⟩ := GuardTakes b0 b1 l hl
  exact signalboxlaw40_GuardTakes.calls k b0 b1 A0 c0 l true w hr0 hc0 h
end Go.Proofs.Ythgnhhdblbiihaa.Pure
