/- Few calls; the same rows; the document's queue, written from outside; no conditions. -/
import Derived.Test.YtkmhdibabdifbaaGBandAlive
import Derived.Test.YtkmhdibabdifbaaPsignalboxlaw15few
import Derived.Test.YtkmhdibabdifbaaPsignalboxref15Same
namespace Go.Proofs.Ytkmhdibabdifbaa.P
open Go.RowKit Go.Proofs.YtkmhdibabdifbaaW.PrintWords Go.Proofs.YtkmhdibabdifbaaW.PrintLast Go.Proofs.YtkmhdibabdifbaaW.PrintMore
set_option linter.unusedVariables false

theorem few_l (l : List S33) : ∀ (d k : Nat) (x3 x4 : Int), 0 ≤ x4 → x4 ≤ 401 → 402 - x4.toNat ≤ d → d ≤ k → ∃ b, signalboxlaw15_few.l0 (k + 1) l x3 x4 = some b ∧ (b = true → l.length ≤ 400) := by
  have fin : ∀ x3 : Int, ∃ b, (if (l.length : Int) ≤ 400 then (some (decide (x3 ≤ 8000))) else (some false)) = some b ∧ (b = true → l.length ≤ 400) := by
    intro x3
    by_cases h : (l.length : Int) ≤ 400
    · rw [if_pos h]
      exact ⟨_, rfl, fun _ => by omega⟩
    · rw [if_neg h]
      exact ⟨_, rfl, fun h => by cases h⟩
  intro d
  induction d with
  | zero => intro k x3 x4 h0 h1 hd; omega
  | succ d ih =>
    intro k x3 x4 h0 h1 hd hk
    rw [signalboxlaw15_few.l0]
    by_cases a : x4 < (l.length : Int)
    · rw [if_pos a]
      by_cases b : x4 ≤ 400
      · rw [if_pos b, if_pos h0]
        obtain ⟨k, rfl⟩ : ∃ k', k = k' + 1 := ⟨k - 1, by omega⟩
        rw [w64_small (x4 + 1) (by omega) (by omega)]
        exact ih k _ (x4 + 1) (by omega) (by omega) (by omega) (by omega)
      · rw [if_neg b]
        exact fin x3
    · rw [if_neg a]
      exact fin x3
theorem few_f (l : List S33) : ∃ b, signalboxlaw15_few.f 500 l = some b ∧ (b = true → l.length ≤ 400) := few_l l 402 499 0 0 (by omega) (by omega) (by omega) (by omega)
theorem same_l (l : List Pk) (hl : l.length ≤ 4611686018427387904) : ∀ (d k : Nat) (i : Int), 0 ≤ i → i ≤ l.length → l.length - i.toNat = d → d ≤ k → signalboxref15_Same.l0 (k + 1) l l i = some true := by
  intro d
  induction d with
  | zero =>
    intro k i h0 h1 hd hk
    rw [signalboxref15_Same.l0, if_neg (by omega)]
  | succ d ih =>
    intro k i h0 h1 hd hk
    obtain ⟨k, rfl⟩ : ∃ k', k = k' + 1 := ⟨k - 1, by omega⟩
    rw [signalboxref15_Same.l0, if_pos (by omega), if_pos h0, if_pos (by omega), if_neg (by simp), w64_small (i + 1) (by omega) (by omega)]
    exact ih k (i + 1) (by omega) (by omega) (by omega) (by omega)
theorem same_f (l : List Pk) (hl : l.length ≤ 4611686018427387904) : signalboxref15_Same.f (l.length + 1) l l = some true := by
  unfold signalboxref15_Same.f
  rw [if_pos rfl]
  exact same_l l hl l.length l.length 0 (by omega) (by omega) (by simp) (Nat.le_refl _)
section
variable {w0 w : World} {g n h : Nat} {q : BQ} {r : RQv} {P Q : World → (Nat → Prop) → Prop} {X : Nat → Prop}
theorem Two.drew (hP : Framed P) (hQ : Framed Q) (H : Two w0 w P Q X) : Two w0 w.drew P Q X := H.quiet hP hQ (Below.refl _ _).drew
/-- The cells of the document's queue. -/
theorem two_rcells (H : Two w0 w P (RP h r) X) : (∃ A c, w.cell? ⟨h, 0, none⟩ = some (.slice A r.L.length c)) ∧ w.cell? ⟨h, 3, none⟩ = some (.bool r.stopped) ∧ ∀ j, w.frozen? ⟨h, j, none⟩ = false := by
  obtain ⟨S, v, hI⟩ := H.get2
  obtain ⟨A, c, hv, _, _⟩ := hI.row.reads
  refine ⟨⟨A, c, ?_⟩, hI.c3, fun j => blk_frozen hI.hb j⟩
  rw [← hv]
  exact hI.c0
theorem two_rset {w1 : World} {r' : RQv} (hP : Framed P) (H : Two w0 w P (RP h r) X) (hs : ∀ S v, RefI w h v r S → IsRef w1 h r' S ∧ Turn (fun k => k = h) w w1) : Two w0 w1 P (RP h r') X ∧ KeepX X w w1 := by
  obtain ⟨S1, S2, h1, h2, hd, hb, hx, hB⟩ := H.swap
  obtain ⟨v, hI⟩ := h1
  obtain ⟨hr, ht⟩ := hs S1 v hI
  have := Two.step1 (P := RP h r) (P' := RP h r') hP (rf h r') ⟨(⟨v, hI⟩ : RP h r w S1), h2, hd, hb, hx, hB⟩ hr (ht.mono (fun k hk => hk ▸ hI.sh)) (fun k hk => .inl hk) (fun k hk => hP.lt h2 k hk)
  exact ⟨this.1.swap, this.2⟩
theorem two_rstop (hP : Framed P) (H : Two w0 w P (RP h r) X) (x : Bool) : Two w0 (w.setCell ⟨h, 3, none⟩ (.bool x)) P (RP h { r with stopped := x }) X ∧ KeepX X w (w.setCell ⟨h, 3, none⟩ (.bool x)) :=
  two_rset hP H (fun S v hI => ⟨⟨v, hI.stop_set x⟩, (Turn.refl (fun k => k = h) _).setCell (.inl rfl) _⟩)
theorem two_rnil (hP : Framed P) (H : Two w0 w P (RP h r) X) : Two w0 (w.setCell ⟨h, 0, none⟩ (.slice none 0 0)) P (RP h { r with L := [] }) X ∧ KeepX X w (w.setCell ⟨h, 0, none⟩ (.slice none 0 0)) :=
  two_rset hP H (fun S v hI => ⟨⟨_, hI.row_set (RowX.nil _ _ _) (fun k hk => by simp [Value.ownBlock] at hk) (fun k hk => hk) hI.lt⟩, (Turn.refl (fun k => k = h) _).setCell (.inl rfl) _⟩)
end
end Go.Proofs.Ytkmhdibabdifbaa.P
