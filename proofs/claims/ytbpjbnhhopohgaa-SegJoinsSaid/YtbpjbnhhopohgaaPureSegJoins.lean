/- SegJoins over plain lists of texts: the message of any parts is as the document says; cut again it is those parts; no conditions. -/
import Derived.Test.YtbpjbnhhopohgaaPsignalboxlaw35SegJoins
import Derived.Test.YtbpjbnhhopohgaaGSplitLaws
namespace Go.Proofs.Ytbpjbnhhopohgaa.Pure
open Go.RowKit Go.Proofs.Ytbpjbnhhopohgaa.P Go.Proofs.YtbpjbnhhopohgaaW.PrintWords Go.Proofs.YtbpjbnhhopohgaaW.PrintLast
set_option linter.unusedVariables false

theorem few_l (l : List ByteArray) (hl : l.length ≤ 4611686018427387904) : ∀ (d k i n : Nat), min l.length 701 - i = d → i ≤ l.length → i ≤ 701 → d < k → n ≤ 10000 * i → (n ≤ 6000 → ∀ (j : Nat) s, l[j]? = some s → j < i → s.size ≤ 6000) →
    ∃ b, signalboxref35_Few.l0 k l (n : Int) (i : Int) = some b ∧ (b = true → l.length ≤ 700 ∧ ∀ s ∈ l, s.size ≤ 6000)
  | 0, k, i, n, hd, hi, h7, hk, hn, hall => by
    obtain ⟨k, rfl⟩ : ∃ m, k = m + 1 := ⟨k - 1, by omega⟩
    simp only [signalboxref35_Few.l0]
    by_cases h : l.length ≤ 700
    · rw [if_neg (by omega), if_pos (by omega)]
      refine ⟨_, rfl, fun hb => ⟨h, fun s hs => ?_⟩⟩
      have hn6 : n ≤ 6000 := by simp only [decide_eq_true_eq] at hb; omega
      obtain ⟨j, hj⟩ := List.getElem?_of_mem hs
      exact hall hn6 j s hj (by have := (List.getElem?_eq_some_iff.1 hj).1; omega)
    · by_cases h' : i < l.length
      · rw [if_pos (by omega), if_neg (by omega), if_neg (by omega)]
        exact ⟨_, rfl, fun hb => by cases hb⟩
      · rw [if_neg (by omega), if_neg (by omega)]
        exact ⟨_, rfl, fun hb => by cases hb⟩
  | d + 1, k, i, n, hd, hi, h7, hk, hn, hall => by
    obtain ⟨k, rfl⟩ : ∃ m, k = m + 1 := ⟨k - 1, by omega⟩
    simp only [signalboxref35_Few.l0]
    have h1 : i < l.length := by omega
    rw [if_pos (by omega), if_pos (by omega), if_pos (by omega), show rdOf ByteArray.empty l (i : Int) = l[i] by simp [rdOf, h1], wrap_succ i (by omega)]
    have em : mn (l[i].size : Int) 10000 = ((min l[i].size 10000 : Nat) : Int) := by unfold mn; first | omega | (split <;> omega)
    rw [em, w64_small _ (by omega) (by omega), show (n : Int) + ((min l[i].size 10000 : Nat) : Int) = ((n + min l[i].size 10000 : Nat) : Int) from by omega]
    refine few_l l hl d k (i + 1) (n + min l[i].size 10000) (by omega) (by omega) (by omega) (by omega) (by omega) (fun hn6 j s hj hji => ?_)
    rcases Nat.lt_or_ge j i with h | h
    · exact hall (by omega) j s hj h
    · have : j = i := by omega
      subst this
      have e : s = l[j] := by rw [List.getElem?_eq_getElem h1] at hj; exact (Option.some.inj hj).symm
      subst e
      omega
theorem few_f (l : List ByteArray) (hl : l.length ≤ 4611686018427387904) (k : Nat) (hk : 702 < k) : ∃ b, signalboxref35_Few.f k l = some b ∧ (b = true → l.length ≤ 700 ∧ ∀ s ∈ l, s.size ≤ 6000) := by
  unfold signalboxref35_Few.f
  exact few_l l hl (min l.length 701) k 0 0 (by omega) (by omega) (by omega) (by omega) (by omega) (fun _ j s _ hj => absurd hj (Nat.not_lt_zero _))
def refJoinM (l : List ByteArray) (o : Option ByteArray) : ByteArray × Bool :=
  match o with
  | none => (⟨#[]⟩, false)
  | some m => ((joinM l m).1, decide ((joinM l m).2 = 0))
theorem refJoin_l (l : List ByteArray) (hl : l.length ≤ 700) (hz : ∀ s ∈ l, s.size ≤ 6000) : ∀ (d k i : Nat) (acc : ByteArray), l.length - i = d → i ≤ l.length → d + 1000 < k → acc.size ≤ 4102 →
    signalboxref35_Join.l0 k l acc (i : Int) = some (refJoinM l (joinL (l.drop i) acc))
  | 0, k, i, acc, hd, hi, hk, ha => by
    obtain ⟨k, rfl⟩ : ∃ m, k = m + 1 := ⟨k - 1, by omega⟩
    simp only [signalboxref35_Join.l0]
    rw [if_neg (by omega), show i = l.length from by omega, List.drop_length]
    show _ = some (refJoinM l (some acc))
    unfold signalboxref35_Split.f refJoinM
    dsimp only
    obtain ⟨wl, we, hS, hf1, hf2⟩ := split_facts acc
    rw [hS]
    simp only [Option.bind_some]
    by_cases hwe : we = 0
    · obtain ⟨e1, e2, e3⟩ := hf1 hwe
      have hlen : wl.length ≤ 600 := by
        rw [e1]; unfold splitL nextMany
        split
        · simp
        · simp only [List.length_cons, List.length_map, List.length_range]; omega
      rw [if_pos hwe, Same_f wl l k (by omega) (by omega)]
      simp only [Option.bind_some, decide_eq_true_eq]
      unfold joinM
      by_cases hw : wl = l
      · rw [if_pos hw, if_pos ⟨e2, e3, e1.symm.trans hw⟩]; rfl
      · rw [if_neg hw, if_neg (fun h => hw (e1.trans h.2.2))]; rfl
    · rw [if_neg hwe]
      unfold joinM
      rw [if_neg (fun h => hwe (hf2 ⟨h.1, h.2.1⟩))]
      rfl
  | d + 1, k, i, acc, hd, hi, hk, ha => by
    obtain ⟨k, rfl⟩ : ∃ m, k = m + 3 + 1 := ⟨k - 4, by omega⟩
    simp only [signalboxref35_Join.l0]
    have h1 : i < l.length := by omega
    have h2 := hz l[i] (List.getElem_mem h1)
    have h7 := readP_size l[i]
    rw [if_pos (by omega), if_pos (by omega), show rdOf ByteArray.empty l (i : Int) = l[i] by simp [rdOf, h1], ref35_Read_f k l[i] (by omega), joinL_drop l i h1]
    simp only [Option.bind_some]
    unfold joinL
    by_cases hy : (readP l[i]).2.2.2 = true
    · rw [if_pos hy, if_pos hy]
      by_cases h4 : acc.size > 4095
      · rw [if_pos (by omega), if_pos h4]; rfl
      · rw [if_neg (by omega), if_neg h4, if_pos (by omega), wrap_succ i (by omega)]
        exact refJoin_l l hl hz d (k + 3) (i + 1) _ (by omega) (by omega) (by omega) (by rw [ByteArray.size_append]; omega)
    · rw [if_neg hy, if_neg hy]; rfl
theorem joinM_two (l : List ByteArray) (m : ByteArray) : ((joinM l m).2 = 0 ∧ splitL (joinM l m).1 = l ∧ 1 ≤ (joinM l m).1.size ∧ (joinM l m).1.size ≤ 4095) ∨ joinM l m = (⟨#[]⟩, 3) := by
  unfold joinM
  split
  · rename_i h; exact .inl ⟨rfl, h.2.2, h.1, h.2.1⟩
  · exact .inr rfl
theorem joins_end (l : List ByteArray) (K : Nat) (hl : l.length ≤ 4611686018427387904) (hK : l.length < K) : ∀ X : ByteArray × Int, ((X.2 = 0 ∧ splitL X.1 = l ∧ 1 ≤ X.1.size ∧ X.1.size ≤ 4095) ∨ X = (⟨#[]⟩, 3)) →
    signalboxlaw35_SegJoins.j0 (K + 1) l X.1 X.2 (decide (X.2 = 0)) ((X.2 == 0) != decide (X.2 = 0)) = some true := by
  rintro ⟨M, E⟩ (⟨e0, e1, e2, e3⟩ | e)
  · dsimp only at e0 e1 e2 e3 ⊢
    subst e0
    simp only [decide_true, signalboxlaw35_SegJoins.j0, beq_self_eq_true, bne_self_eq_false]
    rw [if_neg (by decide)]
    simp only [if_true]
    have es : seg_Split.f M = some (l, 0) := by
      unfold seg_Split.f
      rw [if_neg (by omega), if_neg (by omega), e1]
    rw [es]
    simp only [Option.bind_some]
    rw [Same_f l l K (by omega) (by omega)]
    simp [alive35]
  · obtain ⟨rfl, rfl⟩ := Prod.mk.inj e
    simp [signalboxlaw35_SegJoins.j0, alive35]
theorem SegJoins (l : List ByteArray) (hl : l.length ≤ 4611686018427387904) : ∃ k, signalboxlaw35_SegJoins.f k l = some true := by
  obtain ⟨K, hK⟩ : ∃ K, K = 5000 := ⟨_, rfl⟩
  refine ⟨K + 1, ?_⟩
  unfold signalboxlaw35_SegJoins.f
  obtain ⟨b, hb, hfew⟩ := few_f l hl (K + 1) (by omega)
  rw [hb]
  simp only [Option.bind_some, alive35]
  cases b with
  | false => rfl
  | true =>
    obtain ⟨h7, h6⟩ := hfew rfl
    rw [if_pos rfl]
    have ej : seg_Join.f l = some (joinR l) := by
      unfold seg_Join.f
      rw [if_pos (fun p hp => Nat.le_trans (h6 p hp) (by decide))]
    have er := refJoin_l l h7 h6 l.length (K + 1) 0 ⟨#[]⟩ (by omega) (by omega) (by omega) (by decide)
    rw [List.drop_zero, show ((0 : Nat) : Int) = 0 from rfl] at er
    rw [ej]
    unfold signalboxref35_Join.f
    rw [er]
    simp only [Option.bind_some]
    unfold joinR refJoinM
    cases hj : joinL l ⟨#[]⟩ with
    | none =>
      simp [signalboxlaw35_SegJoins.j0, alive35]
    | some m =>
      dsimp only
      rw [if_pos rfl]
      exact joins_end l K (by omega) (by omega) _ (joinM_two l m)
theorem SegJoinsWalk (A0 : Option Addr) (c0 : Nat) (l : List ByteArray) (hl : l.length ≤ 4611686018427387904) (w : World) (hr0 : Kd.C Kd.string w A0 l.length l) (hc0 : l.length ≤ c0) :
    Calls Try.prog 11 #[.slice A0 l.length c0] w fun e w' => e = .returned (.bool true) ∧ Below w.heap.size w w' := by
  obtain ⟨k, h⟩ := SegJoins l hl
  exact signalboxlaw35_SegJoins.calls k A0 c0 l true w hr0 hc0 h
end Go.Proofs.Ytbpjbnhhopohgaa.Pure
