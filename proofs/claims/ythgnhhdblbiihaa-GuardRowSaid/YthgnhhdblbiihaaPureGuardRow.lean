/- GuardRow over plain numbers: counters in a row, some left out; no conditions. -/
import Derived.Test.YthgnhhdblbiihaaPsignalboxlaw40GuardRow
import Derived.Test.YthgnhhdblbiihaaGGuardRef
import Derived.Test.YthgnhhdblbiihaaPureGuardSeals
namespace Go.Proofs.Ythgnhhdblbiihaa.Pure
open Go.RowKit Go.Proofs.Ythgnhhdblbiihaa.P Go.Proofs.YthgnhhdblbiihaaW.PrintWords Go.Proofs.YthgnhhdblbiihaaW.PrintLast
set_option linter.unusedVariables false

theorem alive_k (k : Nat) (h : 10 ≤ k) : signalboxlaw40_alive.f k = some true := by
  obtain ⟨j, rfl⟩ : ∃ j, k = j + 10 := ⟨k - 10, by omega⟩
  exact alive40 j
theorem take_seal (s0 s1 s2 : Int) (s3 : Bool) (s4 s5 s6 s7 s8 c : Int) (m : ByteArray) (h : 0 ≤ c ∧ c < 15 ∧ m.size ≤ 62 ∧ 0 ≤ s0 ∧ s0 ≤ 255) :
    guard_Guard_Take.f s0 s1 s2 s3 s4 s5 s6 s7 s8 (sealP s0 c m).1 = some (judgeP s1 s2 s3 c, s0, s1, c, true, tick (judgeP s1 s2 s3 c) 0 5 s4, tick (judgeP s1 s2 s3 c) 1 5 s5, tick (judgeP s1 s2 s3 c) 2 5 s6, tick (judgeP s1 s2 s3 c) 3 5 s7, tick (judgeP s1 s2 s3 c) 4 5 s8) := by
  have ho : openP s0 (sealP s0 c m).1 = (c, m, 0) := by rw [open_seal s0 s0 c m h, if_pos ⟨h.2.2.2.1, h.2.2.2.2⟩, if_pos rfl]
  have hz : (sealP s0 c m).1.size ≤ 1000 := by
    unfold sealP; rw [if_pos h]; dsimp only; rw [ByteArray.size_append, ByteArray.size_append, byte1_size, byte1_size]; omega
  have hv : verdictP s0 s1 s2 s3 (sealP s0 c m).1 = judgeP s1 s2 s3 c := by unfold verdictP; rw [ho]; rfl
  unfold guard_Guard_Take.f
  rw [if_pos (by omega), hv, ho]
  rfl
theorem judge_row (most last at_ n : Int) (any : Bool) (hm : 0 ≤ most ∧ most ≤ 13) (ha : 0 ≤ at_ ∧ at_ ≤ 100000) (hn : 0 ≤ n ∧ n ≤ 13) (hl : any = true → 1 ≤ at_ ∧ last = (at_ - 1) % 15) :
    judgeP most last any ((at_ + n) % 15) = if any = false ∨ n = 0 then 1 else if n ≤ most then 3 else 4 := by
  unfold judgeP
  dsimp only
  cases any with
  | false => simp
  | true =>
    obtain ⟨h1, rfl⟩ := hl rfl
    have e1 : wrap64 ((at_ + n) % 15 - (at_ - 1) % 15) = (at_ + n) % 15 - (at_ - 1) % 15 := w64_small _ (by omega) (by omega)
    have e2 : wrap64 ((at_ + n) % 15 - (at_ - 1) % 15 + 15) = (at_ + n) % 15 - (at_ - 1) % 15 + 15 := w64_small _ (by omega) (by omega)
    have e3 : Int.tmod ((at_ + n) % 15 - (at_ - 1) % 15 + 15) 15 = n + 1 := by
      rw [Int.tmod_eq_emod_of_nonneg (by omega)]; omega
    have e4 : wrap64 (most + 1) = most + 1 := w64_small _ (by omega) (by omega)
    rw [e1, e2, e3, e4]
    simp only [reduceCtorEq, false_or]
    by_cases h0 : n = 0
    · rw [if_pos (by omega), if_pos h0]
    · rw [if_neg (by omega), if_neg (by omega), if_neg h0]
      by_cases h2 : n ≤ most
      · rw [if_pos (by omega), if_pos h2]
      · rw [if_neg (by omega), if_neg h2]
theorem row_l (id most : Int) (l : List Int) (hid : 0 ≤ id ∧ id ≤ 255) (hm : 0 ≤ most ∧ most ≤ 13) (hl : l.length ≤ 60) : ∀ (d k i : Nat) (at_ last : Int) (any : Bool) (s4 s5 s6 s7 s8 : Int), l.length - i = d → i ≤ l.length → 4 * d + 20 < k → (0 ≤ at_ ∧ at_ ≤ 14 * i) → (any = true ↔ 0 < i) → (any = true → 1 ≤ at_ ∧ last = (at_ - 1) % 15) →
    signalboxlaw40_GuardRow.l0 k id most at_ l (l.length : Int) (i : Int) id most last any s4 s5 s6 s7 s8 = some true
  | 0, k, i, at_, last, any, s4, s5, s6, s7, s8, hd, hi, hk, ha, hany, hlast => by
    obtain ⟨k, rfl⟩ : ∃ m, k = m + 1 := ⟨k - 1, by omega⟩
    simp only [signalboxlaw40_GuardRow.l0]
    rw [if_neg (by omega), alive_k k (by omega)]; rfl
  | d + 1, k, i, at_, last, any, s4, s5, s6, s7, s8, hd, hi, hk, ha, hany, hlast => by
    obtain ⟨k, rfl⟩ : ∃ m, k = m + 4 := ⟨k - 4, by omega⟩
    have h1 : i < l.length := by omega
    simp only [signalboxlaw40_GuardRow.l0]
    rw [if_pos (by omega), if_pos (by omega), if_pos (by omega)]
    generalize hn : rd l (i : Int) = n
    by_cases n0 : n < 0
    · rw [if_pos n0]
      simp only [signalboxlaw40_GuardRow.j2]
      rw [if_pos trivial, alive_k _ (by omega)]; rfl
    rw [if_neg n0]
    simp only [signalboxlaw40_GuardRow.j2]
    by_cases n13 : n > 13
    · rw [if_pos (by simpa using n13), alive_k _ (by omega)]; rfl
    rw [if_neg (by simpa using n13)]
    have w1 : wrap64 (at_ + n) = at_ + n := w64_small _ (by omega) (by omega)
    have w2 : wrap64 (at_ + n + 1) = at_ + n + 1 := w64_small _ (by omega) (by omega)
    have w3 : Int.tmod (at_ + n) 15 = (at_ + n) % 15 := Int.tmod_eq_emod_of_nonneg (by omega)
    have hc : 0 ≤ (at_ + n) % 15 ∧ (at_ + n) % 15 < 15 ∧ (⟨#[120]⟩ : ByteArray).size ≤ 62 ∧ 0 ≤ id ∧ id ≤ 255 := ⟨by omega, by omega, by decide, hid.1, hid.2⟩
    have es : (sealP id ((at_ + n) % 15) ⟨#[120]⟩).2 = 0 := by unfold sealP; rw [if_pos hc]
    rw [w1, w2, w3, seal_f (k + 1)]
    simp only [Option.bind_some, es]
    have jr := judge_row most last at_ n any hm ⟨ha.1, by omega⟩ ⟨by omega, by omega⟩ hlast
    have step : ∀ s4 s5 s6 s7 s8 : Int, signalboxlaw40_GuardRow.l0 k id most (at_ + n + 1) l (l.length : Int) (wrap64 ((i : Int) + 1)) id most ((at_ + n) % 15) true s4 s5 s6 s7 s8 = some true := fun s4 s5 s6 s7 s8 => by
      rw [wrap_succ i (by omega)]
      exact row_l id most l hid hm hl d k (i + 1) (at_ + n + 1) ((at_ + n) % 15) true s4 s5 s6 s7 s8 (by omega) (by omega) (by omega) (by omega) (by simp) (fun _ => ⟨by omega, by rw [show at_ + n + 1 - 1 = at_ + n from by omega]⟩)
    have step1 : ∀ s4 s5 s6 s7 s8 : Int, signalboxlaw40_GuardRow.l0 (k + 1) id most (at_ + n + 1) l (l.length : Int) (wrap64 ((i : Int) + 1)) id most ((at_ + n) % 15) true s4 s5 s6 s7 s8 = some true := fun s4 s5 s6 s7 s8 => by
      rw [wrap_succ i (by omega)]
      exact row_l id most l hid hm hl d (k + 1) (i + 1) (at_ + n + 1) ((at_ + n) % 15) true s4 s5 s6 s7 s8 (by omega) (by omega) (by omega) (by omega) (by simp) (fun _ => ⟨by omega, by rw [show at_ + n + 1 - 1 = at_ + n from by omega]⟩)
    have T := take_seal id most last any s4 s5 s6 s7 s8 ((at_ + n) % 15) ⟨#[120]⟩ hc
    by_cases hi0 : (i : Int) > 0
    · have hat : any = true := hany.2 (by omega)
      rw [if_pos hi0]
      simp only [signalboxlaw40_GuardRow.j3]
      by_cases h4 : n > most
      · rw [if_pos (by simpa using h4), if_pos trivial, T]
        simp only [Option.bind_some]
        rw [if_pos (by rw [jr, hat]; simp; omega)]
        exact step1 _ _ _ _ _
      · rw [if_neg (by simpa using h4), if_pos hi0]
        simp only [signalboxlaw40_GuardRow.j4]
        by_cases h3 : n > 0
        · rw [if_pos (by simpa using h3), if_pos trivial, T]
          simp only [Option.bind_some]
          rw [if_pos (by rw [jr, hat, if_neg (by simp; omega), if_pos (by omega)])]
          exact step _ _ _ _ _
        · rw [if_neg (by simpa using h3), if_pos trivial, T]
          simp only [Option.bind_some]
          rw [if_pos (by rw [jr, if_pos (by right; omega)])]
          exact step _ _ _ _ _
    · have hat : any = false := by
        cases any with
        | false => rfl
        | true => exact absurd (hany.1 rfl) (by omega)
      rw [if_neg hi0]
      simp only [signalboxlaw40_GuardRow.j3, signalboxlaw40_GuardRow.j4]
      rw [if_neg (by decide), if_neg hi0, if_neg (by decide), if_pos trivial, T]
      simp only [Option.bind_some]
      rw [if_pos (by rw [jr, if_pos (Or.inl hat)])]
      exact step _ _ _ _ _
theorem GuardRow : signalboxlaw40_GuardRow.Pure := by
  intro id most l _ _ _ _ _
  obtain ⟨K, hK⟩ : ∃ K, K = 1000 := ⟨_, rfl⟩
  refine ⟨K + 1, ?_⟩
  have J : ∀ b : Bool, (b = true ↔ ¬ (0 ≤ id ∧ id ≤ 255 ∧ 0 ≤ most ∧ most ≤ 13 ∧ l.length ≤ 60)) → signalboxlaw40_GuardRow.j0 (K + 1) id most l b = some true := by
    intro b hb
    simp only [signalboxlaw40_GuardRow.j0]
    by_cases h : b = true
    · rw [if_pos h, alive_k _ (by omega)]; rfl
    · have hy : 0 ≤ id ∧ id ≤ 255 ∧ 0 ≤ most ∧ most ≤ 13 ∧ l.length ≤ 60 := by
        by_cases q : (0 ≤ id ∧ id ≤ 255 ∧ 0 ≤ most ∧ most ≤ 13 ∧ l.length ≤ 60)
        · exact q
        · exact absurd (hb.2 q) h
      rw [if_neg h]
      have en : guard_New.f id most = some (id, most, 0, false, 0, 0, 0, 0, 0) := by
        unfold guard_New.f mn mx
        congr 1
        have a1 : (if (if id < 0 then (0 : Int) else id) < 255 then (if id < 0 then (0 : Int) else id) else 255) = id := by split <;> split <;> omega
        first
          | (simp only [Prod.mk.injEq, and_true]; constructor <;> (repeat' split) <;> omega)
          | (simp only [Prod.mk.injEq, and_true]; omega)
      rw [en]
      simp only [Option.bind_some]
      exact row_l id most l ⟨hy.1, hy.2.1⟩ ⟨hy.2.2.1, hy.2.2.2.1⟩ hy.2.2.2.2 l.length K 0 0 0 false 0 0 0 0 0 (by omega) (by omega) (by omega) (by omega) (by simp) (fun h => by cases h)
  unfold signalboxlaw40_GuardRow.f
  by_cases h1 : id < 0
  · rw [if_pos h1]; exact J true (by simp; omega)
  rw [if_neg h1]
  by_cases h2 : id > 255
  · rw [if_pos h2]; exact J true (by simp; omega)
  rw [if_neg h2]
  by_cases h3 : most < 0
  · rw [if_pos h3]; exact J true (by simp; omega)
  rw [if_neg h3]
  by_cases h4 : most > 13
  · rw [if_pos h4]; exact J true (by simp; omega)
  rw [if_neg h4]
  exact J _ (by simp only [decide_eq_true_eq]; omega)
end Go.Proofs.Ythgnhhdblbiihaa.Pure
