/- Bands of packets in plain Lean: what the queue of rows holds is what the document's row of all packets tells; no conditions. -/
import Derived.Test.YtkmhdibabdifbaaGBandRef4
namespace Go.Proofs.Ytkmhdibabdifbaa.P
open Go.RowKit Go.Proofs.YtkmhdibabdifbaaW.PrintWords Go.Proofs.YtkmhdibabdifbaaW.PrintLast
set_option linter.unusedVariables false

theorem fstU_spec (L : List One1) : ∀ n, 0 < n → n ≤ L.length → 0 ≤ fstU L n ∧ (∀ j : Nat, j < n → (rd_T61 L (fstU L n)).f0 ≤ (rd_T61 L (j : Int)).f0) ∧ (∀ j : Nat, (j : Int) < fstU L n → (rd_T61 L (fstU L n)).f0 < (rd_T61 L (j : Int)).f0) := by
  intro n
  induction n with
  | zero => intro h; omega
  | succ n ih =>
    intro _ hn
    by_cases h0 : n = 0
    · subst h0
      have e : fstU L 1 = 0 := by simp [fstU]
      rw [e]
      refine ⟨by omega, fun j hj => ?_, fun j hj => by omega⟩
      obtain rfl : j = 0 := by omega
      exact Int.le_refl _
    · obtain ⟨i1, i2, i3⟩ := ih (by omega) (by omega)
      have hl := fstU_lt L n
      by_cases hc : (rd_T61 L (n : Int)).f0 < (rd_T61 L (fstU L n)).f0
      · have e : fstU L (n + 1) = (n : Int) := by rw [fstU, if_pos (.inr hc)]
        rw [e]
        refine ⟨by omega, fun j hj => ?_, fun j hj => ?_⟩
        · by_cases hjn : j = n
          · subst hjn; exact Int.le_refl _
          · have := i2 j (by omega); omega
        · have := i2 j (by omega); omega
      · have e : fstU L (n + 1) = fstU L n := by rw [fstU, if_neg (by rintro (q | q); omega; exact hc q)]
        rw [e]
        refine ⟨i1, fun j hj => ?_, i3⟩
        by_cases hjn : j = n
        · subst hjn; omega
        · exact i2 j (by omega)
structure Rel (q : BQ) (r : RQv) : Prop where
  bands : q.bands = r.bands
  room : q.room = r.room
  stopped : q.stopped = r.stopped
  b1 : 1 ≤ q.bands
  b2 : q.bands ≤ 1000
  many : q.many = (r.L.length : Int)
  rows : ∀ b, q.rows b = bandR r.L b
  inb : ∀ o ∈ r.L, 0 ≤ o.f0 ∧ o.f0 < q.bands
theorem bandR_append (L M : List One1) (b : Int) : bandR (L ++ M) b = bandR L b ++ bandR M b := by simp [bandR]
theorem clampR_le (n : Int) : 1 ≤ clampR n ∧ clampR n ≤ 1000 := by
  unfold clampR mn mx
  repeat' split
  all_goals omega
theorem Rel.new (bands room : Int) : Rel ⟨fun _ => [], clampR bands, clampR room, 0, false⟩ ⟨[], clampR bands, clampR room, false⟩ :=
  ⟨rfl, rfl, rfl, (clampR_le bands).1, (clampR_le bands).2, rfl, fun _ => rfl, fun o ho => by cases ho⟩
theorem bandAt_in (q : BQ) (band : Int) (h : 1 ≤ q.bands) : 0 ≤ bandAt q band ∧ bandAt q band < q.bands := by
  unfold bandAt mn mx
  repeat' split
  all_goals omega
theorem atR_bandAt (q : BQ) (band : Int) (h : 1 ≤ q.bands) : atR q.bands band = bandAt q band := by
  unfold atR bandAt mn mx
  repeat' split
  all_goals omega
theorem Rel.put {q : BQ} {r : RQv} (h : Rel q r) (band : Int) (p : Pk) : Rel (putQ q band p) (rput r (atR r.bands band) p) := by
  have hb : atR r.bands band = bandAt q band := by rw [← h.bands]; exact atR_bandAt q band h.b1
  have hin := bandAt_in q band h.b1
  refine ⟨h.bands, h.room, h.stopped, h.b1, h.b2, ?_, fun b => ?_, fun o ho => ?_⟩
  · show q.many + 1 = ((r.L ++ [mkOne (atR r.bands band) p]).length : Int)
    rw [h.many, List.length_append]
    simp
  · show (if b = bandAt q band then q.rows b ++ [p] else q.rows b) = bandR (r.L ++ [mkOne (atR r.bands band) p]) b
    rw [bandR_append, ← h.rows, hb]
    by_cases e : b = bandAt q band
    · rw [if_pos e]
      subst e
      simp [bandR, mkOne]
    · rw [if_neg e]
      have : ((bandAt q band) == b) = false := beq_eq_false_iff_ne.mpr (fun h => e h.symm)
      simp [bandR, mkOne, this]
  · show 0 ≤ o.f0 ∧ o.f0 < q.bands
    have ho' : o ∈ r.L ++ [mkOne (atR r.bands band) p] := ho
    rcases List.mem_append.1 ho' with ho | ho
    · exact h.inb o ho
    · obtain rfl : o = mkOne (atR r.bands band) p := by simpa using ho
      show 0 ≤ atR r.bands band ∧ atR r.bands band < q.bands
      rw [hb]
      exact hin
/-- Which is taken. -/
theorem Rel.first {q : BQ} {r : RQv} (h : Rel q r) (hl : 0 < r.L.length) : ∃ (k : Nat) (o : One1) (i : Nat), fstU r.L r.L.length = (k : Int) ∧ k < r.L.length ∧ r.L[k]? = some o ∧ o.f0 = (i : Int) ∧ (i : Int) < q.bands ∧
    q.rows i = o.f1 :: bandR (r.L.take k ++ r.L.drop (k + 1)) i ∧ (∀ j : Nat, j < i → q.rows j = []) ∧ Rel (takeQ q i (bandR (r.L.take k ++ r.L.drop (k + 1)) i)) (rtake r k) := by
  obtain ⟨h0, h1, h2⟩ := fstU_spec r.L r.L.length hl (Nat.le_refl _)
  have hlt := fstU_lt r.L r.L.length
  obtain ⟨k, hk⟩ : ∃ k : Nat, fstU r.L r.L.length = (k : Int) := ⟨(fstU r.L r.L.length).toNat, by omega⟩
  rw [hk] at h1 h2 hlt
  have hkl : k < r.L.length := by omega
  obtain ⟨o, ho⟩ : ∃ o, r.L[k]? = some o := ⟨_, List.getElem?_eq_getElem hkl⟩
  have er : ∀ (j : Nat) (p : One1), r.L[j]? = some p → rd_T61 r.L (j : Int) = p := fun j p hp => by
    unfold rd_T61
    rw [Int.toNat_natCast, List.getD_eq_getElem?_getD, hp]
    rfl
  rw [er k o ho] at h1 h2
  have hmem : o ∈ r.L := List.mem_of_getElem? ho
  obtain ⟨b0, b1⟩ := h.inb o hmem
  obtain ⟨i, hi⟩ : ∃ i : Nat, o.f0 = (i : Int) := ⟨o.f0.toNat, by omega⟩
  have hsplit : r.L = r.L.take k ++ o :: r.L.drop (k + 1) := by
    have e1 : r.L.drop k = o :: r.L.drop (k + 1) := by
      rw [List.drop_eq_getElem_cons hkl]
      congr 1
      have := List.getElem?_eq_getElem hkl
      rw [ho] at this
      exact (Option.some.inj this).symm
    rw [← e1, List.take_append_drop]
  have hmin : ∀ p ∈ r.L, o.f0 ≤ p.f0 := by
    intro p hp
    obtain ⟨j, hj⟩ := List.mem_iff_getElem?.1 hp
    have := h1 j (List.getElem?_eq_some_iff.1 hj).1
    rwa [er j p hj] at this
  have htk : ∀ p ∈ r.L.take k, o.f0 < p.f0 := by
    intro p hp
    obtain ⟨j, hj⟩ := List.mem_iff_getElem?.1 hp
    have hj2 : j < k := by
      have := (List.getElem?_eq_some_iff.1 hj).1
      rw [List.length_take] at this
      omega
    rw [List.getElem?_take_of_lt hj2] at hj
    have := h2 j (by omega)
    rwa [er j p hj] at this
  have hone : ∀ b, bandR [o] b = if o.f0 = b then [o.f1] else [] := fun b => by
    by_cases e : o.f0 = b
    · simp [bandR, e]
    · simp [bandR, e]
  have hall : ∀ b, bandR r.L b = bandR (r.L.take k) b ++ ((if o.f0 = b then [o.f1] else []) ++ bandR (r.L.drop (k + 1)) b) := fun b => by
    conv => lhs; rw [hsplit]
    rw [bandR_append, show o :: r.L.drop (k + 1) = [o] ++ r.L.drop (k + 1) from rfl, bandR_append, hone]
  have htk0 : bandR (r.L.take k) (i : Int) = [] := by
    unfold bandR
    rw [List.filter_eq_nil_iff.2 (fun p hp => by have := htk p hp; simp; omega)]
    rfl
  refine ⟨k, o, i, hk, hkl, ho, hi, by omega, ?_, fun j hj => ?_, ?_⟩
  · rw [h.rows, hall, bandR_append, htk0, if_pos hi]
    rfl
  · rw [h.rows]
    unfold bandR
    rw [List.filter_eq_nil_iff.2 (fun p hp => by have := hmin p hp; simp; omega)]
    rfl
  · refine ⟨h.bands, h.room, h.stopped, h.b1, h.b2, ?_, fun b => ?_, fun p hp => ?_⟩
    · show q.many - 1 = ((r.L.take k ++ r.L.drop (k + 1)).length : Int)
      rw [h.many, List.length_append, List.length_take, List.length_drop]
      omega
    · show (if b = (i : Int) then bandR (r.L.take k ++ r.L.drop (k + 1)) i else q.rows b) = bandR (r.L.take k ++ r.L.drop (k + 1)) b
      by_cases e : b = (i : Int)
      · rw [if_pos e, e]
      · rw [if_neg e, h.rows, hall, bandR_append, if_neg (fun q => e (by rw [← q, hi]))]
        rfl
    · have hp' : p ∈ r.L.take k ++ r.L.drop (k + 1) := hp
      rcases List.mem_append.1 hp' with hp | hp
      · exact h.inb p (List.mem_of_mem_take hp)
      · exact h.inb p (List.mem_of_mem_drop hp)
theorem Rel.all {q : BQ} {r : RQv} (h : Rel q r) (n : Nat) : allQ q n = allR r.L n := by
  unfold allQ allR
  congr 1
  funext i
  exact h.rows i
theorem fstU_nil : fstU [] 0 = -1 := rfl
theorem Rel.flush {q : BQ} {r : RQv} (h : Rel q r) : Rel { q with rows := fun _ => [], many := 0 } { r with L := [] } := ⟨h.bands, h.room, h.stopped, h.b1, h.b2, rfl, fun _ => rfl, fun o ho => by cases ho⟩
theorem Rel.stop {q : BQ} {r : RQv} (h : Rel q r) (x : Bool) : Rel { q with stopped := x } { r with stopped := x } := ⟨h.bands, h.room, rfl, h.b1, h.b2, h.many, h.rows, h.inb⟩
theorem Rel.ok {q : BQ} {r : RQv} (h : Rel q r) (hl : r.L.length ≤ 1000000) : BOk q := ⟨h.b1, h.b2, by rw [h.many]; omega, by rw [h.many]; omega, fun i => by rw [h.rows]; exact Nat.le_trans (bandR_le _ _) hl⟩
theorem Rel.empty {q : BQ} {r : RQv} (h : Rel q r) (hm : q.many ≤ 0) : (∀ i, q.rows i = []) ∧ q.many = 0 := by
  have h1 := h.many
  have : r.L = [] := List.eq_nil_of_length_eq_zero (by omega)
  refine ⟨fun i => ?_, by omega⟩
  rw [h.rows, this]
  rfl
end Go.Proofs.Ytkmhdibabdifbaa.P
