/- Two objects of the call's own: how a method's contract is lifted; no conditions. -/
import Derived.Test.YtaninnkhdhpcgaaGTwo
import Derived.Test.YtaninnkhdhpcgaaP0
namespace Go.Proofs.Ytaninnkhdhpcgaa.P
open Go.RowKit Go.Proofs.YtaninnkhdhpcgaaW.PrintWords Go.Proofs.YtaninnkhdhpcgaaW.PrintLast
set_option linter.unusedVariables false

section
variable {w0 w : World} {P Q : World → (Nat → Prop) → Prop} {X : Nat → Prop}
theorem Two.own1 {P' : World → (Nat → Prop) → Prop} {f : Nat} {args : Array Value} {R : Ending → Prop} (hQ : Framed Q) (hP' : Framed P') (H : Two w0 w P Q X)
    (hc : ∀ S, P w S → Calls Try.prog f args w fun e w' => R e ∧ ∃ S', P' w' S' ∧ Turn S w w' ∧ (∀ k, S' k → S k ∨ w.heap.size ≤ k)) : Calls Try.prog f args w fun e w' => R e ∧ Two w0 w' P' Q X ∧ KeepX X w w' := by
  obtain ⟨S1, S2, h1, h2, hd, hb, hx, hB⟩ := H
  refine (hc S1 h1).mono ?_
  rintro e w' ⟨hr, S', h1', ht, hs⟩
  exact ⟨hr, Two.step1 hQ hP' ⟨h1, h2, hd, hb, hx, hB⟩ h1' ht hs (fun k hk => hQ.lt h2 k hk)⟩
theorem Two.same1 {P' : World → (Nat → Prop) → Prop} {f : Nat} {args : Array Value} {R : Ending → Prop} (hQ : Framed Q) (hP' : Framed P') (H : Two w0 w P Q X)
    (hc : ∀ S, P w S → Calls Try.prog f args w fun e w' => R e ∧ P' w' S ∧ Turn S w w') : Calls Try.prog f args w fun e w' => R e ∧ Two w0 w' P' Q X ∧ KeepX X w w' :=
  H.own1 hQ hP' (fun S hS => (hc S hS).mono (fun e w' hh => ⟨hh.1, S, hh.2.1, hh.2.2, fun k hk => .inl hk⟩))
theorem Two.own2 {Q' : World → (Nat → Prop) → Prop} {f : Nat} {args : Array Value} {R : Ending → Prop} (hP : Framed P) (hQ' : Framed Q') (H : Two w0 w P Q X)
    (hc : ∀ S, Q w S → Calls Try.prog f args w fun e w' => R e ∧ ∃ S', Q' w' S' ∧ Turn S w w' ∧ (∀ k, S' k → S k ∨ w.heap.size ≤ k)) : Calls Try.prog f args w fun e w' => R e ∧ Two w0 w' P Q' X ∧ KeepX X w w' :=
  (H.swap.own1 hP hQ' hc).mono (fun e w' hh => ⟨hh.1, hh.2.1.swap, hh.2.2⟩)
theorem Two.same2 {Q' : World → (Nat → Prop) → Prop} {f : Nat} {args : Array Value} {R : Ending → Prop} (hP : Framed P) (hQ' : Framed Q') (H : Two w0 w P Q X)
    (hc : ∀ S, Q w S → Calls Try.prog f args w fun e w' => R e ∧ Q' w' S ∧ Turn S w w') : Calls Try.prog f args w fun e w' => R e ∧ Two w0 w' P Q' X ∧ KeepX X w w' :=
  (H.swap.same1 hP hQ' hc).mono (fun e w' hh => ⟨hh.1, hh.2.1.swap, hh.2.2⟩)
theorem Two.get1 (H : Two w0 w P Q X) : ∃ S, P w S := by
  obtain ⟨S1, S2, h1, _⟩ := H
  exact ⟨S1, h1⟩
theorem Two.get2 (H : Two w0 w P Q X) : ∃ S, Q w S := by
  obtain ⟨S1, S2, h1, h2, _⟩ := H
  exact ⟨S2, h2⟩
/-- A call that keeps all that was there. -/
theorem Two.still {f : Nat} {args : Array Value} {R : Ending → Prop} (hP : Framed P) (hQ : Framed Q) (H : Two w0 w P Q X)
    (hc : Calls Try.prog f args w fun e w' => R e ∧ Below w.heap.size w w') : Calls Try.prog f args w fun e w' => R e ∧ Two w0 w' P Q X ∧ KeepX X w w' :=
  hc.mono (fun e w' hh => ⟨hh.1, H.quiet hP hQ hh.2, fun k hk => hh.2.block k (H.xlt k hk)⟩)
/-- A call that hands back a new row, and turns its object. -/
theorem Two.tick1 {P' : World → (Nat → Prop) → Prop} {f : Nat} {args : Array Value} {R : World → Value → Prop} (hQ : Framed Q) (hP' : Framed P') (H : Two w0 w P Q X)
    (hc : ∀ S, P w S → Calls Try.prog f args w fun e w' => ∃ v, e = .returned v ∧ R w' v ∧ (∀ k, v.ownBlock = some k → w.heap.size ≤ k ∧ k < w'.heap.size) ∧ (∃ S', P' w' S' ∧ (∀ k, S' k → S k ∨ w.heap.size ≤ k) ∧ ∀ k, v.ownBlock = some k → ¬ S' k) ∧ Turn S w w') :
    Calls Try.prog f args w fun e w' => ∃ v, e = .returned v ∧ R w' v ∧ Two w0 w' P' Q (fun k => X k ∨ v.ownBlock = some k) ∧ KeepX X w w' ∧ (∀ k, v.ownBlock = some k → w.heap.size ≤ k) := by
  obtain ⟨S1, S2, h1, h2, hd, hb, hx, hB⟩ := H
  refine (hc S1 h1).mono ?_
  rintro e w' ⟨v, rfl, hr, hv, ⟨S', h1', hs, hvs⟩, ht⟩
  have hQlt := hQ.lt h2
  refine ⟨v, rfl, hr, ⟨S', S2, h1', hQ.turn h2 ht (fun k hk hk2 => hd k hk2 hk), fun k hk hk2 => ?_, fun k hk => ⟨?_, ?_⟩, fun k hk => ?_, ht.below hB (fun k hk => (hb k (.inl hk)).1)⟩, fun k hk => ht.block k (hx k hk) (fun h => (hb k (.inl h)).2 hk), fun k hk => (hv k hk).1⟩
  · rcases hs k hk with h | h
    · exact hd k h hk2
    · have := hQlt k hk2
      omega
  · rcases hk with hk | hk
    · rcases hs k hk with h | h
      · exact (hb k (.inl h)).1
      · exact Nat.le_trans hB.size h
    · exact (hb k (.inr hk)).1
  · rintro (h | h)
    · rcases hk with hk | hk
      · rcases hs k hk with h9 | h9
        · exact (hb k (.inl h9)).2 h
        · have := hx k h
          omega
      · exact (hb k (.inr hk)).2 h
    · rcases hk with hk | hk
      · exact hvs k h hk
      · have := hQlt k hk
        have := (hv k h).1
        omega
  · rcases hk with hk | hk
    · exact Nat.lt_of_lt_of_le (hx k hk) ht.size
    · exact (hv k hk).2
theorem Two.tick2 {Q' : World → (Nat → Prop) → Prop} {f : Nat} {args : Array Value} {R : World → Value → Prop} (hP : Framed P) (hQ' : Framed Q') (H : Two w0 w P Q X)
    (hc : ∀ S, Q w S → Calls Try.prog f args w fun e w' => ∃ v, e = .returned v ∧ R w' v ∧ (∀ k, v.ownBlock = some k → w.heap.size ≤ k ∧ k < w'.heap.size) ∧ (∃ S', Q' w' S' ∧ (∀ k, S' k → S k ∨ w.heap.size ≤ k) ∧ ∀ k, v.ownBlock = some k → ¬ S' k) ∧ Turn S w w') :
    Calls Try.prog f args w fun e w' => ∃ v, e = .returned v ∧ R w' v ∧ Two w0 w' P Q' (fun k => X k ∨ v.ownBlock = some k) ∧ KeepX X w w' ∧ (∀ k, v.ownBlock = some k → w.heap.size ≤ k) := by
  refine (H.swap.tick1 hP hQ' hc).mono ?_
  rintro e w' ⟨v, rfl, hr, ht, hk, hn⟩
  exact ⟨v, rfl, hr, ht.swap, hk, hn⟩
/-- Less is protected. -/
theorem Two.less (H : Two w0 w P Q X) {Y : Nat → Prop} (h : ∀ k, Y k → X k) : Two w0 w P Q Y := by
  obtain ⟨S1, S2, h1, h2, hd, hb, hx, hB⟩ := H
  exact ⟨S1, S2, h1, h2, hd, fun k hk => ⟨(hb k hk).1, fun hy => (hb k hk).2 (h k hy)⟩, fun k hk => hx k (h k hk), hB⟩
theorem KeepX.row {α : Type} {d : Kd α} {e : Nat} {w1 : World} {v : Value} {xs : List α} (h : KeepX X w w1) (hr : RowX d e w v xs) (hx : ∀ k, v.ownBlock = some k → X k) : RowX d e w1 v xs :=
  hr.keep (fun k hk => h k (hx k hk))
end
end Go.Proofs.Ytaninnkhdhpcgaa.P
