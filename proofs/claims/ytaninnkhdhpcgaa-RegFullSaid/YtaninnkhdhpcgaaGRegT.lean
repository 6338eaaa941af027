/- Several texts of this session's own as one. -/
import Derived.Test.YtaninnkhdhpcgaaGObj
import Derived.Test.YtaninnkhdhpcgaaP0
import Derived.Test.YtaninnkhdhpcgaaGNum
import Derived.Test.YtaninnkhdhpcgaaPsignalboxref09Ints
namespace Go.Proofs.Ytaninnkhdhpcgaa.P
open Go.RowKit Go.Proofs.YtaninnkhdhpcgaaW.PrintWords Go.Proofs.YtaninnkhdhpcgaaW.PrintLast
set_option linter.unusedVariables false

/-- A reading of a world that looks at the blocks of S alone. -/
structure Framed (P : World → (Nat → Prop) → Prop) : Prop where
  turn : ∀ {w w1 : World} {S S2 : Nat → Prop}, P w S → Turn S2 w w1 → (∀ k, S k → ¬ S2 k) → P w1 S
  lt : ∀ {w : World} {S : Nat → Prop}, P w S → ∀ k, S k → k < w.heap.size
/-- Nothing is owned. -/
def Nought (w : World) (S : Nat → Prop) : Prop := ∀ k, ¬ S k
theorem nought_framed : Framed Nought := ⟨fun h _ _ => h, fun h k hk => absurd hk (h k)⟩
/-- P and Q hold of w, each of blocks of its own, none of them protected (X), all of them made since w0. -/
def Two (w0 w : World) (P Q : World → (Nat → Prop) → Prop) (X : Nat → Prop) : Prop :=
  ∃ S1 S2, P w S1 ∧ Q w S2 ∧ (∀ k, S1 k → ¬ S2 k) ∧ (∀ k, S1 k ∨ S2 k → w0.heap.size ≤ k ∧ ¬ X k) ∧ (∀ k, X k → k < w.heap.size) ∧ Below w0.heap.size w0 w
def KeepX (X : Nat → Prop) (w w1 : World) : Prop := ∀ k, X k → w1.heap[k]? = w.heap[k]?
section
variable {w0 w w1 : World} {P P' Q Q' : World → (Nat → Prop) → Prop} {X : Nat → Prop}
theorem Two.step1 (hQ : Framed Q) (hP' : Framed P') {S1 S2 S1' : Nat → Prop} (h : P w S1 ∧ Q w S2 ∧ (∀ k, S1 k → ¬ S2 k) ∧ (∀ k, S1 k ∨ S2 k → w0.heap.size ≤ k ∧ ¬ X k) ∧ (∀ k, X k → k < w.heap.size) ∧ Below w0.heap.size w0 w)
    (h1 : P' w1 S1') (ht : Turn S1 w w1) (hs : ∀ k, S1' k → S1 k ∨ w.heap.size ≤ k) (hQlt : ∀ k, S2 k → k < w.heap.size) : Two w0 w1 P' Q X ∧ KeepX X w w1 := by
  obtain ⟨h2, h3, hd, hb, hx, hB⟩ := h
  refine ⟨⟨S1', S2, h1, hQ.turn h3 ht (fun k hk hk2 => hd k hk2 hk), fun k hk hk2 => ?_, fun k hk => ?_, fun k hk => Nat.lt_of_lt_of_le (hx k hk) ht.size, ht.below hB (fun k hk => (hb k (.inl hk)).1)⟩, fun k hk => ht.block k (hx k hk) (fun h => (hb k (.inl h)).2 hk)⟩
  · rcases hs k hk with h | h
    · exact hd k h hk2
    · have := hQlt k hk2
      omega
  · rcases hk with hk | hk
    · rcases hs k hk with h | h
      · exact hb k (.inl h)
      · exact ⟨Nat.le_trans hB.size h, fun h9 => by have := hx k h9; omega⟩
    · exact hb k (.inr hk)
theorem Two.swap (h : Two w0 w P Q X) : Two w0 w Q P X := by
  obtain ⟨S1, S2, h1, h2, hd, hb, r⟩ := h
  exact ⟨S2, S1, h2, h1, fun k hk hk2 => hd k hk2 hk, fun k hk => hb k hk.symm, r⟩
/-- A call that keeps all that was there. -/
theorem Two.quiet (hP : Framed P) (hQ : Framed Q) (h : Two w0 w P Q X) (hb : Below w.heap.size w w1) : Two w0 w1 P Q X := by
  obtain ⟨S1, S2, h1, h2, hd, hbs, hx, hB⟩ := h
  have ht := Turn.of_below hb (fun _ => False)
  exact ⟨S1, S2, hP.turn h1 ht (fun _ _ x => x), hQ.turn h2 ht (fun _ _ x => x), hd, hbs, fun k hk => Nat.lt_of_lt_of_le (hx k hk) hb.size, ht.below hB (fun k hk => hk.elim)⟩
/-- Protected blocks are written. -/
theorem Two.turnX (hP : Framed P) (hQ : Framed Q) (h : Two w0 w P Q X) {S : Nat → Prop} (ht : Turn S w w1) (hS : ∀ k, S k → X k ∧ w0.heap.size ≤ k) : Two w0 w1 P Q X := by
  obtain ⟨S1, S2, h1, h2, hd, hbs, hx, hB⟩ := h
  exact ⟨S1, S2, hP.turn h1 ht (fun k hk hk2 => (hbs k (.inl hk)).2 (hS k hk2).1), hQ.turn h2 ht (fun k hk hk2 => (hbs k (.inr hk)).2 (hS k hk2).1), hd, hbs, fun k hk => Nat.lt_of_lt_of_le (hx k hk) ht.size, ht.below hB (fun k hk => (hS k hk).2)⟩
/-- Protected blocks are written; new ones come in. -/
theorem Two.turnY (hP : Framed P) (hQ : Framed Q) (h : Two w0 w P Q X) {S Y : Nat → Prop} (ht : Turn S w w1) (hS : ∀ k, S k → X k ∧ w0.heap.size ≤ k) (hY : ∀ k, Y k → X k ∨ (w.heap.size ≤ k ∧ k < w1.heap.size)) : Two w0 w1 P Q Y := by
  obtain ⟨S1, S2, h1, h2, hd, hbs, hx, hB⟩ := h
  refine ⟨S1, S2, hP.turn h1 ht (fun k hk hk2 => (hbs k (.inl hk)).2 (hS k hk2).1), hQ.turn h2 ht (fun k hk hk2 => (hbs k (.inr hk)).2 (hS k hk2).1), hd, fun k hk => ⟨(hbs k hk).1, fun hy => ?_⟩, fun k hk => ?_, ht.below hB (fun k hk => (hS k hk).2)⟩
  · rcases hY k hy with h | h
    · exact (hbs k hk).2 h
    · rcases hk with hk | hk
      · have := hP.lt h1 k hk; omega
      · have := hQ.lt h2 k hk; omega
  · rcases hY k hk with h | h
    · exact Nat.lt_of_lt_of_le (hx k h) ht.size
    · exact h.2
/-- What is neither owned nor to come is protected. -/
theorem Two.protect (h : Two w0 w P Q X) {Y : Nat → Prop} (hP : Framed P) (hQ : Framed Q) (hY : ∀ k, Y k → X k ∨ (w.heap.size ≤ k ∧ k < w1.heap.size)) (hb : Below w.heap.size w w1) : Two w0 w1 P Q Y := by
  obtain ⟨S1, S2, h1, h2, hd, hbs, hx, hB⟩ := h
  have ht := Turn.of_below hb (fun _ => False)
  refine ⟨S1, S2, hP.turn h1 ht (fun _ _ x => x), hQ.turn h2 ht (fun _ _ x => x), hd, fun k hk => ⟨(hbs k hk).1, fun hy => ?_⟩, fun k hk => ?_, ht.below hB (fun k hk => hk.elim)⟩
  · rcases hY k hy with h | h
    · exact (hbs k hk).2 h
    · rcases hk with hk | hk
      · have := hP.lt h1 k hk; omega
      · have := hQ.lt h2 k hk; omega
  · rcases hY k hk with h | h
    · exact Nat.lt_of_lt_of_le (hx k h) hb.size
    · exact h.2
/-- A new block is protected. -/
theorem Two.box (h : Two w0 w P Q X) (hP : Framed P) (hQ : Framed Q) (o : Obj) {D : Nat} (hD : D = w.heap.size) {Y : Nat → Prop} (hY : ∀ k, Y k → X k ∨ k = D) : Two w0 (w.alloc o) P Q Y :=
  h.protect hP hQ (fun k hk => (hY k hk).elim .inl (fun e => .inr (by rw [e, hD, alloc_size]; omega))) (below_alloc (Below.refl _ _) _)
theorem Two.below (h : Two w0 w P Q X) : Below w0.heap.size w0 w := by
  obtain ⟨S1, S2, h1, h2, hd, hbs, hx, hB⟩ := h
  exact hB
theorem Two.xlt (h : Two w0 w P Q X) : ∀ k, X k → k < w.heap.size := by
  obtain ⟨S1, S2, h1, h2, hd, hbs, hx, hB⟩ := h
  exact hx
/-- At the start. -/
theorem Two.start (w0 : World) : Two w0 w0 Nought Nought (fun _ => False) := ⟨fun _ => False, fun _ => False, fun _ x => x, fun _ x => x, fun _ x => x.elim, fun _ x => (x.elim id id).elim, fun _ x => x.elim, Below.refl _ _⟩
/-- A new object comes in. -/
theorem Two.come (h : Two w0 w Nought Q X) (hQ : Framed Q) {S : Nat → Prop} (h1 : P w1 S) (hs : ∀ k, S k → w.heap.size ≤ k) (hb : Below w.heap.size w w1) : Two w0 w1 P Q X := by
  obtain ⟨S1, S2, h0, h2, hd, hbs, hx, hB⟩ := h
  have ht := Turn.of_below hb (fun _ => False)
  refine ⟨S, S2, h1, hQ.turn h2 ht (fun _ _ x => x), fun k hk hk2 => ?_, fun k hk => ?_, fun k hk => Nat.lt_of_lt_of_le (hx k hk) hb.size, ht.below hB (fun k hk => hk.elim)⟩
  · have := hQ.lt h2 k hk2
    have := hs k hk
    omega
  · rcases hk with hk | hk
    · exact ⟨Nat.le_trans hB.size (hs k hk), fun h9 => by have := hx k h9; have := hs k hk; omega⟩
    · exact hbs k (.inr hk)
theorem KeepX.blk {b : Nat} {o : Obj} (h : KeepX X w w1) (hb : w.heap[b]? = some o) (hx : X b) : w1.heap[b]? = some o := (h b hx).trans hb
end
end Go.Proofs.Ytaninnkhdhpcgaa.P

namespace Go.Proofs.Ytaninnkhdhpcgaa.P
open Go.RowKit Go.Proofs.YtaninnkhdhpcgaaW.PrintWords Go.Proofs.YtaninnkhdhpcgaaW.PrintLast
set_option linter.unusedVariables false

section
variable {w0 w : World} {P Q : World → (Nat → Prop) → Prop} {X : Nat → Prop}
theorem Two.own1 {P' : World → (Nat → Prop) → Prop} {f : Nat} {args : Array Value} {R : Ending → Prop} (hQ : Framed Q) (hP' : Framed P') (H : Two w0 w P Q X)
    (hc : ∀ S, P w S → Calls Try.prog f args w fun e w' => R e ∧ ∃ S', P' w' S' ∧ Turn S w w' ∧ (∀ k, S' k → S k ∨ w.heap.size ≤ k)) : Calls Try.prog f args w fun e w' => R e ∧ Two w0 w' P' Q X ∧ KeepX X w w' := by
  obtain ⟨S1, S2, h1, h2, hd, hb, hx, hB⟩ := H
  refine (hc S1 h1).mono ?_
  rintro e w' ⟨hr, S', h1', ht, hs⟩
  exact ⟨hr, Two.step1 hQ hP' ⟨h1, h2, hd, hb, hx, hB⟩ h1' ht hs (fun k hk => hQ.lt h2 k hk)⟩
theorem Two.same1 {P' : World → (Nat → Prop) → Prop} {f : Nat} {args : Array Value} {R : Ending → Prop} (hQ : Framed Q) (hP' : Framed P') (H : Two w0 w P Q X)
    (hc : ∀ S, P w S → Calls Try.prog f args w fun e w' => R e ∧ P' w' S ∧ Turn S w w') : Calls Try.prog f args w fun e w' => R e ∧ Two w0 w' P' Q X ∧ KeepX X w w' :=
  H.own1 hQ hP' (fun S hS => (hc S hS).mono (fun e w' hh => ⟨hh.1, S, hh.2.1, hh.2.2, fun k hk => .inl hk⟩))
theorem Two.own2 {Q' : World → (Nat → Prop) → Prop} {f : Nat} {args : Array Value} {R : Ending → Prop} (hP : Framed P) (hQ' : Framed Q') (H : Two w0 w P Q X)
    (hc : ∀ S, Q w S → Calls Try.prog f args w fun e w' => R e ∧ ∃ S', Q' w' S' ∧ Turn S w w' ∧ (∀ k, S' k → S k ∨ w.heap.size ≤ k)) : Calls Try.prog f args w fun e w' => R e ∧ Two w0 w' P Q' X ∧ KeepX X w w' :=
  (H.swap.own1 hP hQ' hc).mono (fun e w' hh => ⟨hh.1, hh.2.1.swap, hh.2.2⟩)
theorem Two.same2 {Q' : World → (Nat → Prop) → Prop} {f : Nat} {args : Array Value} {R : Ending → Prop} (hP : Framed P) (hQ' : Framed Q') (H : Two w0 w P Q X)
    (hc : ∀ S, Q w S → Calls Try.prog f args w fun e w' => R e ∧ Q' w' S ∧ Turn S w w') : Calls Try.prog f args w fun e w' => R e ∧ Two w0 w' P Q' X ∧ KeepX X w w' :=
  (H.swap.same1 hP hQ' hc).mono (fun e w' hh => ⟨hh.1, hh.2.1.swap, hh.2.2⟩)
theorem Two.get1 (H : Two w0 w P Q X) : ∃ S, P w S := by
  obtain ⟨S1, S2, h1, _⟩ := H
  exact ⟨S1, h1⟩
theorem Two.get2 (H : Two w0 w P Q X) : ∃ S, Q w S := by
  obtain ⟨S1, S2, h1, h2, _⟩ := H
  exact ⟨S2, h2⟩
/-- A call that keeps all that was there. -/
theorem Two.still {f : Nat} {args : Array Value} {R : Ending → Prop} (hP : Framed P) (hQ : Framed Q) (H : Two w0 w P Q X)
    (hc : Calls Try.prog f args w fun e w' => R e ∧ Below w.heap.size w w') : Calls Try.prog f args w fun e w' => R e ∧ Two w0 w' P Q X ∧ KeepX X w w' :=
  hc.mono (fun e w' hh => ⟨hh.1, H.quiet hP hQ hh.2, fun k hk => hh.2.block k (H.xlt k hk)⟩)
/-- A call that hands back a new row, and turns its object. -/
theorem Two.tick1 {P' : World → (Nat → Prop) → Prop} {f : Nat} {args : Array Value} {R : World → Value → Prop} (hQ : Framed Q) (hP' : Framed P') (H : Two w0 w P Q X)
    (hc : ∀ S, P w S → Calls Try.prog f args w fun e w' => ∃ v, e = .returned v ∧ R w' v ∧ (∀ k, v.ownBlock = some k → w.heap.size ≤ k ∧ k < w'.heap.size) ∧ (∃ S', P' w' S' ∧ (∀ k, S' k → S k ∨ w.heap.size ≤ k) ∧ ∀ k, v.ownBlock = some k → ¬ S' k) ∧ Turn S w w') :
    Calls Try.prog f args w fun e w' => ∃ v, e = .returned v ∧ R w' v ∧ Two w0 w' P' Q (fun k => X k ∨ v.ownBlock = some k) ∧ KeepX X w w' ∧ (∀ k, v.ownBlock = some k → w.heap.size ≤ k) := by
  obtain ⟨S1, S2, h1, h2, hd, hb, hx, hB⟩ := H
  refine (hc S1 h1).mono ?_
  rintro e w' ⟨v, rfl, hr, hv, ⟨S', h1', hs, hvs⟩, ht⟩
  have hQlt := hQ.lt h2
  refine ⟨v, rfl, hr, ⟨S', S2, h1', hQ.turn h2 ht (fun k hk hk2 => hd k hk2 hk), fun k hk hk2 => ?_, fun k hk => ⟨?_, ?_⟩, fun k hk => ?_, ht.below hB (fun k hk => (hb k (.inl hk)).1)⟩, fun k hk => ht.block k (hx k hk) (fun h => (hb k (.inl h)).2 hk), fun k hk => (hv k hk).1⟩
  · rcases hs k hk with h | h
    · exact hd k h hk2
    · have := hQlt k hk2
      omega
  · rcases hk with hk | hk
    · rcases hs k hk with h | h
      · exact (hb k (.inl h)).1
      · exact Nat.le_trans hB.size h
    · exact (hb k (.inr hk)).1
  · rintro (h | h)
    · rcases hk with hk | hk
      · rcases hs k hk with h9 | h9
        · exact (hb k (.inl h9)).2 h
        · have := hx k h
          omega
      · exact (hb k (.inr hk)).2 h
    · rcases hk with hk | hk
      · exact hvs k h hk
      · have := hQlt k hk
        have := (hv k h).1
        omega
  · rcases hk with hk | hk
    · exact Nat.lt_of_lt_of_le (hx k hk) ht.size
    · exact (hv k hk).2
theorem Two.tick2 {Q' : World → (Nat → Prop) → Prop} {f : Nat} {args : Array Value} {R : World → Value → Prop} (hP : Framed P) (hQ' : Framed Q') (H : Two w0 w P Q X)
    (hc : ∀ S, Q w S → Calls Try.prog f args w fun e w' => ∃ v, e = .returned v ∧ R w' v ∧ (∀ k, v.ownBlock = some k → w.heap.size ≤ k ∧ k < w'.heap.size) ∧ (∃ S', Q' w' S' ∧ (∀ k, S' k → S k ∨ w.heap.size ≤ k) ∧ ∀ k, v.ownBlock = some k → ¬ S' k) ∧ Turn S w w') :
    Calls Try.prog f args w fun e w' => ∃ v, e = .returned v ∧ R w' v ∧ Two w0 w' P Q' (fun k => X k ∨ v.ownBlock = some k) ∧ KeepX X w w' ∧ (∀ k, v.ownBlock = some k → w.heap.size ≤ k) := by
  refine (H.swap.tick1 hP hQ' hc).mono ?_
  rintro e w' ⟨v, rfl, hr, ht, hk, hn⟩
  exact ⟨v, rfl, hr, ht.swap, hk, hn⟩
/-- Less is protected. -/
theorem Two.less (H : Two w0 w P Q X) {Y : Nat → Prop} (h : ∀ k, Y k → X k) : Two w0 w P Q Y := by
  obtain ⟨S1, S2, h1, h2, hd, hb, hx, hB⟩ := H
  exact ⟨S1, S2, h1, h2, hd, fun k hk => ⟨(hb k hk).1, fun hy => (hb k hk).2 (h k hy)⟩, fun k hk => hx k (h k hk), hB⟩
theorem KeepX.row {α : Type} {d : Kd α} {e : Nat} {w1 : World} {v : Value} {xs : List α} (h : KeepX X w w1) (hr : RowX d e w v xs) (hx : ∀ k, v.ownBlock = some k → X k) : RowX d e w1 v xs :=
  hr.keep (fun k hk => h k (hx k hk))
end
end Go.Proofs.Ytaninnkhdhpcgaa.P

namespace Go.Proofs.Ytaninnkhdhpcgaa.P
open Go.RowKit Go.Proofs.YtaninnkhdhpcgaaW.PrintWords Go.Proofs.YtaninnkhdhpcgaaW.PrintLast
set_option linter.unusedVariables false

theorem ints_same : ∀ (d : Nat) (l : List Int) (i : Nat), l.length - i = d → i ≤ l.length → l.length ≤ 100000 → ∀ k, d < k → signalboxref09_Ints.l0 k l l (i : Int) = some true
  | 0, l, i, hd, hi, hb, k, hk => by
    obtain ⟨k, rfl⟩ : ∃ m, k = m + 1 := ⟨k - 1, by omega⟩
    simp only [signalboxref09_Ints.l0]
    rw [if_neg (by omega)]
  | d + 1, l, i, hd, hi, hb, k, hk => by
    obtain ⟨k, rfl⟩ : ∃ m, k = m + 1 := ⟨k - 1, by omega⟩
    simp only [signalboxref09_Ints.l0]
    rw [if_pos (by omega), if_pos (by omega), if_pos (by omega), if_pos trivial, wrap_succ i (by omega)]
    exact ints_same d l (i + 1) (by omega) (by omega) hb k (by omega)
theorem ints_refl (l : List Int) (hb : l.length ≤ 100000) : signalboxref09_Ints.f (l.length + 1) l l = some true := by
  unfold signalboxref09_Ints.f
  rw [if_pos rfl]
  exact ints_same l.length l 0 (by omega) (by omega) hb _ (by omega)
/-- Two rows that read the same. -/
theorem ints_calls {w : World} {A0 A1 : Option Addr} {c0 c1 : Nat} {l : List Int} (h0 : Kd.C (Kd.int .i64) w A0 l.length l) (hc0 : l.length ≤ c0) (h1 : Kd.C (Kd.int .i64) w A1 l.length l) (hc1 : l.length ≤ c1) (hb : l.length ≤ 100000) :
    Calls Try.prog 16 #[.slice A0 l.length c0, .slice A1 l.length c1] w fun e w' => e = .returned (.bool true) ∧ Below w.heap.size w w' :=
  (signalboxref09_Ints.calls (l.length + 1) A0 c0 l A1 c1 l true w h0 hc0 h1 hc1 (ints_refl l hb)).mono (fun e w' hh => ⟨hh.1, hh.2.below⟩)
end Go.Proofs.Ytaninnkhdhpcgaa.P
