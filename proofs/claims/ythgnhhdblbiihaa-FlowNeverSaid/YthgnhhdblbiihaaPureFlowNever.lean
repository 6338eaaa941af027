/- FlowNever over plain numbers and texts; no conditions. -/
import Derived.Test.YthgnhhdblbiihaaPsignalboxlaw36FlowNever
import Derived.Test.YthgnhhdblbiihaaGFlowPlan
namespace Go.Proofs.Ythgnhhdblbiihaa.Pure
open Go.RowKit Go.Proofs.Ythgnhhdblbiihaa.P Go.Proofs.YthgnhhdblbiihaaW.PrintWords Go.Proofs.YthgnhhdblbiihaaW.PrintLast Go.Proofs.YthgnhhdblbiihaaW.PrintMore
set_option linter.unusedVariables false

theorem alive36n : signalboxlaw36_alive.f = some true := by decide +kernel
/-- How the hearer stands ahead of part i, when so many were left out. -/
def NvOk (m : ByteArray) (i : Nat) (left : Int) (s3 : ByteArray) (s4 s5 s6 : Int) (s7 : ByteArray) (s8 : Bool) : Prop :=
  (i = 0 ∧ left = 0 ∧ s3 = ⟨#[]⟩ ∧ s4 = 0 ∧ s5 = 0 ∧ s6 = 0 ∧ s8 = false)
  ∨ (left = 0 ∧ i = (splitL m).length ∧ s8 = true ∧ s7 = m)
  ∨ (∃ j, i = j + 1 ∧ left = 0 ∧ j < nextMany m.size ∧ 8 ≤ m.size ∧ s3 = heardM m j ∧ s4 = m.size ∧ s5 = ((j + 1) % 16 : Nat) ∧ 0 ≤ s6 ∧ s6 ≤ j ∧ s8 = false)
  ∨ (1 ≤ i ∧ 1 ≤ left ∧ s8 = false ∧ s3.size ≤ 100000 ∧ 0 ≤ s5 ∧ s5 < 16 ∧ 0 ≤ s6 ∧ s6 ≤ i ∧ (s4 = 0 ∨ (s4 = m.size ∧ (s3.size : Int) + 7 * left ≤ 6 + 7 * ((i : Int) - 1))))
theorem nv_bounds {m : ByteArray} (h1 : 1 ≤ m.size) (h2 : m.size ≤ 4095) {i : Nat} {left : Int} {s3 : ByteArray} {s4 s5 s6 : Int} {s7 : ByteArray} {s8 : Bool} (h : NvOk m i left s3 s4 s5 s6 s7 s8) (hi : i < (splitL m).length) : inOkB s3 s4 s5 s6 = true := by
  have hl := split_len m
  have hM : nextMany m.size ≤ 600 := by unfold nextMany; omega
  have hL : (splitL m).length ≤ 601 := by rw [hl]; split <;> omega
  unfold inOkB
  rcases h with ⟨_, _, rfl, rfl, rfl, rfl, _⟩ | ⟨_, h, _⟩ | ⟨j, rfl, _, hj, h8, rfl, rfl, rfl, a, b, _⟩ | ⟨a1, a2, a3, a4, a5, a6, a7, a8, a9⟩
  · decide
  · exact absurd hi (by omega)
  · have hs := heard_size m j
    simp only [Bool.and_eq_true, decide_eq_true_eq]
    omega
  · simp only [Bool.and_eq_true, decide_eq_true_eq]
    omega
theorem nv_skip {m : ByteArray} {i : Nat} {left : Int} {s3 : ByteArray} {s4 s5 s6 : Int} {s7 : ByteArray} {s8 : Bool} (h : NvOk m i left s3 s4 s5 s6 s7 s8) (hm : m.size ≤ 4095) (hi : i < (splitL m).length) : NvOk m (i + 1) (left + 1) s3 s4 s5 s6 s7 s8 := by
  refine .inr (.inr (.inr ?_))
  rcases h with ⟨rfl, rfl, rfl, rfl, rfl, rfl, h8⟩ | ⟨_, h, _⟩ | ⟨j, rfl, rfl, hj, h8, rfl, rfl, rfl, a, b, hf⟩ | ⟨a1, a2, a3, a4, a5, a6, a7, a8, a9⟩
  · exact ⟨by omega, by omega, h8, by decide, by omega, by omega, by omega, by omega, .inl rfl⟩
  · exact absurd hi (by omega)
  · have hs := heard_size m j
    exact ⟨by omega, by omega, hf, by omega, by omega, by omega, by omega, by omega, .inr ⟨rfl, by omega⟩⟩
  · exact ⟨by omega, by omega, a3, a4, a5, a6, a7, by omega, by omega⟩
theorem nv_take {m : ByteArray} (h1 : 1 ≤ m.size) (h2 : m.size ≤ 4095) (b q : Int) {i : Nat} {left : Int} {s3 : ByteArray} {s4 s5 s6 : Int} {s7 : ByteArray} {s8 : Bool} (h : NvOk m i left s3 s4 s5 s6 s7 s8) (hi : i < (splitL m).length) (X : ByteArray × Int × InT)
    (hX : X = takeIn m.size b q s3 s4 s5 s6 s7 s8 (readE ((splitL m).getD i ⟨#[]⟩)).1 (readE ((splitL m).getD i ⟨#[]⟩)).2.1 (readE ((splitL m).getD i ⟨#[]⟩)).2.2.1 (readE ((splitL m).getD i ⟨#[]⟩)).2.2.2) :
    ∃ x1 x2 t3 t4 t5 t6 t7 t8, X = (x1, x2, (m.size : Int), b, q, t3, t4, t5, t6, t7, t8) ∧ NvOk m (i + 1) left t3 t4 t5 t6 t7 t8 := by
  have hlen := split_len m
  rcases h with ⟨rfl, rfl, rfl, rfl, rfl, rfl, h8⟩ | ⟨_, h, _⟩ | ⟨j, rfl, rfl, hj, h8, rfl, rfl, rfl, a, c, hf⟩ | ⟨a1, a2, a3, a4, a5, a6, a7, a8, a9⟩
  · by_cases h7 : m.size ≤ 7
    · rw [if_pos h7] at hlen
      have hR : readE ((splitL m).getD 0 ⟨#[]⟩) = (0, (m.size : Int), m, 0) := by
        rw [split_at7 m h7]
        unfold readE
        rw [read_single m h1 h7]
        rfl
      rw [hR] at hX
      dsimp only at hX
      unfold takeIn at hX
      rw [if_neg (by omega), if_neg (by omega), if_neg (by omega), if_neg (by omega), if_pos rfl] at hX
      exact ⟨_, _, _, _, _, _, _, _, hX, .inr (.inl ⟨rfl, hlen.symm, rfl, rfl⟩)⟩
    · rw [if_neg h7] at hlen
      have hmany : 0 < nextMany m.size := by unfold nextMany; omega
      have hR : readE ((splitL m).getD 0 ⟨#[]⟩) = (1, (m.size : Int), m.extract 0 6, 0) := by
        rw [split_at0 m h7]
        unfold readE
        rw [read_first m (by omega) h2]
        rfl
      rw [hR] at hX
      dsimp only at hX
      unfold takeIn at hX
      rw [if_neg (by omega), if_neg (by omega), if_neg (by omega), if_neg (by omega), if_neg (by omega)] at hX
      refine ⟨_, _, _, _, _, _, _, _, hX, .inr (.inr (.inl ⟨0, rfl, rfl, hmany, by omega, ?_, rfl, rfl, by omega, by omega, rfl⟩))⟩
      unfold heardM
      rw [show min (6 + 7 * 0) m.size = 6 from by omega]
  · exact absurd hi (by omega)
  · have h7 : ¬ m.size ≤ 7 := by omega
    rw [if_neg h7] at hlen
    have hin : 6 + 7 * j < m.size := (nextMany_lt m.size j (by omega)).2 hj
    have hR : readE ((splitL m).getD (j + 1) ⟨#[]⟩) = (2, (((j + 1) % 16 : Nat) : Int), m.extract (6 + 7 * j) (min (6 + 7 * (j + 1)) m.size), 0) := by
      rw [split_at m h7 j hj]
      unfold readE
      rw [read_next m j hin]
      rfl
    rw [hR] at hX
    dsimp only at hX
    unfold takeIn at hX
    rw [if_neg (by omega), if_pos rfl] at hX
    unfold moreP at hX
    have hds : (m.extract (6 + 7 * j) (min (6 + 7 * (j + 1)) m.size)).size = min (6 + 7 * (j + 1)) m.size - (6 + 7 * j) := by rw [ba_extract_size]; omega
    have hhs := heard_size m j
    rw [if_neg (by omega), if_neg (by rintro (h | h); exact h rfl; exact h (by rw [hds, hhs]; omega)), heard_more] at hX
    have hhs2 := heard_size m (j + 1)
    by_cases hend : j + 1 = nextMany m.size
    · have hw : m.size ≤ 6 + 7 * (j + 1) := by
        have := nextMany_lt m.size (j + 1) (by omega)
        omega
      rw [if_pos (by rw [hhs2]; omega), heard_all m (j + 1) hw] at hX
      exact ⟨_, _, _, _, _, _, _, _, hX, .inr (.inl ⟨rfl, by omega, rfl, rfl⟩)⟩
    · have hw : ¬ m.size ≤ 6 + 7 * (j + 1) := by
        have := (nextMany_lt m.size (j + 1) (by omega)).2 (by omega)
        omega
      rw [if_neg (by rw [hhs2]; omega)] at hX
      have hnum : ((((j + 1) % 16 : Nat) : Int) + 1) % 16 = (((j + 1 + 1) % 16 : Nat) : Int) := by omega
      rw [hnum] at hX
      by_cases hfl : s6 + 1 = b
      · rw [if_pos hfl] at hX
        exact ⟨_, _, _, _, _, _, _, _, hX, .inr (.inr (.inl ⟨j + 1, rfl, rfl, by omega, h8, rfl, rfl, rfl, by omega, by omega, hf⟩))⟩
      · rw [if_neg hfl] at hX
        exact ⟨_, _, _, _, _, _, _, _, hX, .inr (.inr (.inl ⟨j + 1, rfl, rfl, by omega, h8, rfl, rfl, rfl, by omega, by omega, hf⟩))⟩
  · obtain ⟨j, rfl⟩ : ∃ j, i = j + 1 := ⟨i - 1, by omega⟩
    have h7 : ¬ m.size ≤ 7 := by intro h; rw [if_pos h] at hlen; omega
    rw [if_neg h7] at hlen
    have hj : j < nextMany m.size := by omega
    have hin : 6 + 7 * j < m.size := (nextMany_lt m.size j (by omega)).2 hj
    have hR : readE ((splitL m).getD (j + 1) ⟨#[]⟩) = (2, (((j + 1) % 16 : Nat) : Int), m.extract (6 + 7 * j) (min (6 + 7 * (j + 1)) m.size), 0) := by
      rw [split_at m h7 j hj]
      unfold readE
      rw [read_next m j hin]
      rfl
    rw [hR] at hX
    dsimp only at hX
    unfold takeIn at hX
    rw [if_neg (by omega), if_pos rfl] at hX
    unfold moreP at hX
    have hds : (m.extract (6 + 7 * j) (min (6 + 7 * (j + 1)) m.size)).size = min (6 + 7 * (j + 1)) m.size - (6 + 7 * j) := by rw [ba_extract_size]; omega
    have hlast := (nextMany_lt m.size (nextMany m.size - 1) (by omega)).2 (by omega)
    generalize m.extract (6 + 7 * j) (min (6 + 7 * (j + 1)) m.size) = d at hX hds
    by_cases e0 : s4 = 0
    · rw [if_pos e0] at hX
      exact ⟨_, _, _, _, _, _, _, _, hX, .inr (.inr (.inr ⟨by omega, a2, rfl, by decide, a5, a6, a7, by omega, .inl rfl⟩))⟩
    rw [if_neg e0] at hX
    by_cases e1 : ((((j + 1) % 16 : Nat) : Int)) ≠ s5 ∨ (d.size : Int) ≠ min 7 (s4 - s3.size)
    · rw [if_pos e1] at hX
      exact ⟨_, _, _, _, _, _, _, _, hX, .inr (.inr (.inr ⟨by omega, a2, rfl, by decide, a5, a6, a7, by omega, .inl rfl⟩))⟩
    rw [if_neg e1] at hX
    obtain ⟨b1, b2⟩ := a9.resolve_left e0
    have hz : (s3 ++ d).size = s3.size + d.size := ByteArray.size_append
    rw [if_neg (by omega)] at hX
    by_cases hfl : s6 + 1 = b
    · rw [if_pos hfl] at hX
      exact ⟨_, _, _, _, _, _, _, _, hX, .inr (.inr (.inr ⟨by omega, a2, a3, by omega, by omega, by omega, by omega, by omega, .inr ⟨b1, by omega⟩⟩))⟩
    · rw [if_neg hfl] at hX
      exact ⟨_, _, _, _, _, _, _, _, hX, .inr (.inr (.inr ⟨by omega, a2, a3, by omega, by omega, by omega, by omega, by omega, .inr ⟨b1, by omega⟩⟩))⟩
theorem nv_loop (m : ByteArray) (h1 : 1 ≤ m.size) (h2 : m.size ≤ 4095) (b q : Int) (out : List Bool) : ∀ (d k i : Nat) (left : Int) (s3 : ByteArray) (s4 s5 s6 : Int) (s7 : ByteArray) (s8 : Bool), i + d = (splitL m).length → 2 * d < k → 0 ≤ left → left ≤ i → NvOk m i left s3 s4 s5 s6 s7 s8 →
    signalboxlaw36_FlowNever.l0 k m out (splitL m) left (splitL m) ((splitL m).length : Int) (i : Int) (m.size : Int) b q s3 s4 s5 s6 s7 s8 = some true := by
  have hl := split_len m
  have hM : nextMany m.size ≤ 600 := by unfold nextMany; omega
  have hL : (splitL m).length ≤ 601 := by rw [hl]; split <;> omega
  have hL1 : 1 ≤ (splitL m).length := by rw [hl]; split <;> omega
  intro d
  induction d with
  | zero =>
    intro k i left s3 s4 s5 s6 s7 s8 hd hk h0 h9 H
    obtain ⟨k, rfl⟩ : ∃ k', k = k' + 1 := ⟨k - 1, by omega⟩
    rw [signalboxlaw36_FlowNever.l0, if_neg (by omega)]
    unfold flow_In_Msg.f
    simp only [Option.bind_some]
    rw [alive36n]
    rcases H with ⟨rfl, _⟩ | ⟨rfl, _, rfl, rfl⟩ | ⟨j, rfl, rfl, hj, h8, _⟩ | ⟨a1, a2, rfl, _⟩
    · exfalso; omega
    · simp
    · rw [if_neg (by omega)] at hl; exfalso; omega
    · have : (left == 0) = false := beq_eq_false_iff_ne.mpr (by omega)
      simp [this]
  | succ d ih =>
    intro k i left s3 s4 s5 s6 s7 s8 hd hk h0 h9 H
    obtain ⟨k, rfl⟩ : ∃ k', k = k' + 2 := ⟨k - 2, by omega⟩
    have hi : i < (splitL m).length := by omega
    have fin : ∀ fl : Bool, signalboxlaw36_FlowNever.j2 (k + 1) m out (splitL m) left (i : Int) (rdOf ByteArray.empty (splitL m) (i : Int)) (splitL m) ((splitL m).length : Int) (i : Int) fl (m.size : Int) b q s3 s4 s5 s6 s7 s8 = some true := by
      intro fl
      have ew : wrap64 ((i : Int) + 1) = ((i + 1 : Nat) : Int) := by rw [w64_small _ (by omega) (by omega)]; omega
      have el : wrap64 (left + 1) = left + 1 := w64_small _ (by omega) (by omega)
      have eL : wrap64 (((splitL m).length : Int) - 1) = ((splitL m).length : Int) - 1 := w64_small _ (by omega) (by omega)
      rw [signalboxlaw36_FlowNever.j2, ew, el, eL]
      by_cases hfl : fl = true
      · rw [if_pos hfl]
        exact ih k (i + 1) (left + 1) s3 s4 s5 s6 s7 s8 (by omega) (by omega) (by omega) (by omega) (nv_skip H h2 hi)
      · rw [if_neg hfl]
        have hg : rdOf ByteArray.empty (splitL m) (i : Int) = (splitL m).getD i ⟨#[]⟩ := by unfold rdOf; rw [Int.toNat_natCast]; rfl
        rw [hg]
        unfold flow_In_Take.f
        rw [if_pos ⟨nv_bounds h1 h2 H hi, (split_bt m h2 i hi).1⟩]
        obtain ⟨x1, x2, t3, t4, t5, t6, t7, t8, hX, H'⟩ := nv_take h1 h2 b q H hi _ rfl
        rw [hX]
        unfold flow_In_Msg.f
        simp only [Option.bind_some]
        have go := ih k (i + 1) left t3 t4 t5 t6 t7 t8 (by omega) (by omega) (by omega) (by omega) H'
        rcases H' with ⟨h, _⟩ | ⟨rfl, hh, rfl, rfl⟩ | ⟨j, _, _, _, _, _, _, _, _, _, rfl⟩ | ⟨_, _, rfl, _⟩
        · exact absurd h (by omega)
        · rw [if_pos rfl, if_pos rfl, if_neg (by omega), if_neg (by omega)]
          exact go
        · rw [if_neg (by decide)]; exact go
        · rw [if_neg (by decide)]; exact go
    rw [signalboxlaw36_FlowNever.l0, if_pos (by omega), if_pos (by omega), if_pos (by omega)]
    split
    · exact fin _
    · exact fin _
theorem never_pure (m : ByteArray) (block gap : Int) (out : List Bool) (k : Nat) (hk : 2 * 601 + 2 ≤ k) : signalboxlaw36_FlowNever.f k m block gap out = some true := by
  obtain ⟨k, rfl⟩ : ∃ k', k = k' + 1 := ⟨k - 1, by omega⟩
  unfold signalboxlaw36_FlowNever.f signalboxref35_Split.f seg_Split.f
  simp only [Option.bind_some]
  have al : ∀ (l : List ByteArray), signalboxlaw36_FlowNever.j0 (k + 1) m block gap out l true = some true := by
    intro l
    rw [signalboxlaw36_FlowNever.j0, if_pos rfl, alive36n]
    rfl
  by_cases h0 : m.size = 0
  · rw [if_neg (by omega), if_pos h0]
    exact al _
  by_cases h1 : m.size > 4095
  · rw [if_pos (by omega)]
    exact al _
  rw [if_neg (by omega), if_neg h0, if_neg h1]
  have hl := split_len m
  have hM : nextMany m.size ≤ 600 := by unfold nextMany; omega
  have hL : (splitL m).length ≤ 601 := by rw [hl]; split <;> omega
  show signalboxlaw36_FlowNever.j0 (k + 1) m block gap out (splitL m) false = some true
  rw [signalboxlaw36_FlowNever.j0, if_neg (by decide)]
  unfold flow_Hear.f
  simp only [Option.bind_some]
  exact nv_loop m (by omega) (by omega) _ _ out (splitL m).length k 0 0 _ _ _ _ _ _ (by omega) (by omega) (by omega) (by omega) (.inl ⟨rfl, rfl, rfl, rfl, rfl, rfl, rfl⟩)
theorem never_law (m : ByteArray) (block gap : Int) (A : Option Addr) (c : Nat) (out : List Bool) (w : World) (hr : Kd.C Kd.bool w A out.length out) (hc : out.length ≤ c) :
    Calls Try.prog 10 #[.string m, .int .i64 block, .int .i64 gap, .slice A out.length c] w fun e w' => e = .returned (.bool true) ∧ Below w.heap.size w w' :=
  signalboxlaw36_FlowNever.calls 2000 m block gap A c out true w hr hc (never_pure m block gap out 2000 (by decide))
end Go.Proofs.Ythgnhhdblbiihaa.Pure
