/- SegSplits over plain texts: the parts of any message; no conditions. -/
import Derived.Test.YtbpjbnhhopohgaaPsignalboxlaw35SegSplits
import Derived.Test.YtbpjbnhhopohgaaGSplitLaws
namespace Go.Proofs.Ytbpjbnhhopohgaa.Pure
open Go.RowKit Go.Proofs.Ytbpjbnhhopohgaa.P Go.Proofs.YtbpjbnhhopohgaaW.PrintWords Go.Proofs.YtbpjbnhhopohgaaW.PrintLast

theorem splits_l0 (s : ByteArray) (x3 l : List ByteArray) (hl : l.length ≤ 4611686018427387904) (h8 : ∀ p ∈ l, p.size ≤ 8) : ∀ (d k i : Nat), l.length - i = d → i ≤ l.length → d < k →
    signalboxlaw35_SegSplits.l0 k s x3 l (l.length : Int) (i : Int) = ((seg_Join.f x3).bind fun bt273 => (if bt273.1.toList = s.toList then (if bt273.2 = 0 then ((signalboxlaw35_alive.f).bind fun t275 => (some t275)) else (some false)) else (some false)))
  | 0, k, i, hd, hi, hk => by
    obtain ⟨k, rfl⟩ : ∃ m, k = m + 1 := ⟨k - 1, by omega⟩
    simp only [signalboxlaw35_SegSplits.l0]
    rw [if_neg (by omega)]
  | d + 1, k, i, hd, hi, hk => by
    obtain ⟨k, rfl⟩ : ∃ m, k = m + 1 := ⟨k - 1, by omega⟩
    simp only [signalboxlaw35_SegSplits.l0]
    have h1 : i < l.length := by omega
    have h2 := h8 l[i] (List.getElem_mem h1)
    rw [if_pos (by omega), if_pos (by omega), if_pos (by omega), show rdOf ByteArray.empty l (i : Int) = l[i] by simp [rdOf, h1], if_neg (by omega), wrap_succ i (by omega)]
    exact splits_l0 s x3 l hl h8 d k (i + 1) (by omega) (by omega) (by omega)

theorem SegSplits : signalboxlaw35_SegSplits.Pure := by
  intro s hs
  obtain ⟨K, hK⟩ : ∃ K, K = 5000 := ⟨_, rfl⟩
  refine ⟨K + 2, ?_⟩
  unfold signalboxlaw35_SegSplits.f signalboxref35_Split.f
  by_cases h5 : (s.size : Int) > 5000
  · rw [if_pos h5, alive35]; rfl
  rw [if_neg h5]
  have hlen : (splitL s).length ≤ 2000 := by
    unfold splitL nextMany
    split
    · simp
    · simp only [List.length_cons, List.length_map, List.length_range]; omega
  by_cases h0 : 1 ≤ s.size ∧ s.size ≤ 4095
  · have e : seg_Split.f s = some (splitL s, 0) := by
      unfold seg_Split.f
      rw [if_neg (by omega), if_neg (by omega)]
    rw [e]
    simp only [Option.bind_some]
    rw [Same_f _ _ _ (by omega) (by omega)]
    simp only [Option.bind_some, decide_true, if_true]
    rw [seg_Many_f (K + 1)]
    simp only [Option.bind_some, splitL_length s h0.1 h0.2, bne_self_eq_false]
    simp only [signalboxlaw35_SegSplits.j0]
    rw [if_neg (by decide)]
    simp only [if_true]
    have := splits_l0 s (splitL s) (splitL s) (by omega) (splitL_sizes s) (splitL s).length (K + 1) 0 (by omega) (by omega) (by omega)
    rw [show ((0 : Nat) : Int) = 0 from rfl] at this
    rw [this]
    have ej : seg_Join.f (splitL s) = some (s, 0) := by
      unfold seg_Join.f
      rw [if_pos (fun p hp => Nat.le_trans (splitL_sizes s p hp) (by decide)), joinR_split s h0.1 h0.2]
    rw [ej]
    simp [alive35]
  · obtain ⟨we, hwe, e⟩ : ∃ we : Int, we ≠ 0 ∧ seg_Split.f s = some ([], we) := by
      unfold seg_Split.f
      by_cases hz : s.size = 0
      · exact ⟨2, by decide, by rw [if_pos hz]⟩
      · exact ⟨9, by decide, by rw [if_neg hz, if_pos (by omega)]⟩
    rw [e]
    simp only [Option.bind_some]
    rw [Same_f _ _ _ (by simp) (by simp)]
    simp only [Option.bind_some, decide_true, if_true]
    rw [seg_Many_f (K + 1)]
    have em : manyP (s.size : Int) = 0 := by unfold manyP; rw [if_pos (by omega)]
    simp only [Option.bind_some, em]
    simp only [signalboxlaw35_SegSplits.j0]
    rw [if_neg (by simp), if_neg hwe, alive35]
    rfl
end Go.Proofs.Ytbpjbnhhopohgaa.Pure
