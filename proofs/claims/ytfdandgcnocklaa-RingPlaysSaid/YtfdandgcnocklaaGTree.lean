/- A region that draws its order, walked along a plan: operations that yield in every world are taken where they may come up, each other one when it alone may come up, or two that may come up one way and the other; no conditions. -/
import Derived.Test.YtfdandgcnocklaaGSeq
namespace Go.Proofs.Ytfdandgcnocklaa.P
open Go.RowKit Go.Proofs.YtfdandgcnocklaaW.PrintWords Go.Proofs.YtfdandgcnocklaaW.PrintLast

inductive Plan
  | done
  | pure (i : Nat) (r : Plan)
  | one (i : Nat) (r : Plan)
  | two (i j : Nat) (ri rj : Plan)
def Plan.deep : Plan → Nat
  | .done => 0
  | .pure _ r => r.deep + 1
  | .one _ r => r.deep + 1
  | .two _ _ ri rj => max ri.deep rj.deep + 1
def Plan.ok (md : Region.Mode) (ops : Array Oper) : Plan → Array Bool → Bool
  | .done, l => Region.ready md ops l == []
  | .pure i r, l => Region.free md ops l i && (Region.ready md ops l).contains i && r.ok md ops (l.setIfInBounds i true)
  | .one i r, l => (Region.ready md ops l == [i]) && r.ok md ops (l.setIfInBounds i true)
  | .two i j ri rj, l => (Region.ready md ops l == [i, j]) && ri.ok md ops (l.setIfInBounds i true) && rj.ok md ops (l.setIfInBounds j true)
def wpTree (P : Program) (ops : Array Oper) (Q : Exit → Act → World → Prop) : Plan → Act → World → Prop
  | .done, a, w => Q .normal a w
  | .pure i r, a, w => ∃ o v, ops[i]? = some o ∧ Yields P ops o v a ∧ wpTree P ops Q r (a.put o.dst v) w
  | .one i r, a, w => ∃ o, ops[i]? = some o ∧ wpList P ops (mixQ (wpTree P ops Q r) Q) [o] a w
  | .two i j ri rj, a, w => (∃ o, ops[i]? = some o ∧ wpList P ops (mixQ (wpTree P ops Q ri) Q) [o] a w) ∧ (∃ o, ops[j]? = some o ∧ wpList P ops (mixQ (wpTree P ops Q rj) Q) [o] a w)

section
variable {P : Program} {ops : Array Oper} {Q : Exit → Act → World → Prop} {md : Region.Mode}
theorem tree_sound (hsel : Region.noSelect ops = true) (hQ : ∀ d v c a w, Q (.panic c) (a.put d v) w → Q (.panic c) a w) : ∀ (p : Plan) (n : Nat) (l : Array Bool) (a : Act) (w : World),
    p.deep ≤ n → p.ok md ops l = true → wpTree P ops Q p a w → wpAnyLast P md ops Q (fun _ => True) [] n l a w
  | .done, n, l, a, w, _, hB, h => done_ hB h
  | .pure i r, n, l, a, w, hn, hB, h => by
    obtain ⟨n, rfl⟩ : ∃ m, n = m + 1 := ⟨n - 1, by simp [Plan.deep] at hn; omega⟩
    simp only [Plan.ok, Bool.and_eq_true] at hB
    obtain ⟨⟨h1, h2⟩, h3⟩ := hB
    obtain ⟨o, v, ho, hy, h⟩ := h
    exact wpAnyLast_any ho (Region.noSelect_spec hsel) (fun c a w => hQ _ _ c a w) n l a w (Region.free_spec ho h1) (by simpa using h2) hy
      (tree_sound hsel hQ r n _ _ _ (by simp [Plan.deep] at hn; omega) h3 h)
  | .one i r, n, l, a, w, hn, hB, h => by
    obtain ⟨n, rfl⟩ : ∃ m, n = m + 1 := ⟨n - 1, by simp [Plan.deep] at hn; omega⟩
    simp only [Plan.ok, Bool.and_eq_true, beq_iff_eq] at hB
    obtain ⟨h1, h2⟩ := hB
    obtain ⟨o, ho, h⟩ := h
    refine And.intro (fun h0 => absurd (h1.symm.trans h0) (by simp)) (fun j hj => ?_)
    rw [h1] at hj
    obtain rfl : j = i := by simpa using hj
    exact wpOp_mono (fun a' w' h' => ⟨fun _ _ => trivial, tree_sound hsel hQ r n _ _ _ (by simp [Plan.deep] at hn; omega) h2 h'⟩) (wpOp_of_list ho h)
  | .two i k ri rk, n, l, a, w, hn, hB, h => by
    obtain ⟨n, rfl⟩ : ∃ m, n = m + 1 := ⟨n - 1, by simp [Plan.deep] at hn; omega⟩
    simp only [Plan.ok, Bool.and_eq_true, beq_iff_eq] at hB
    obtain ⟨⟨h1, h2⟩, h3⟩ := hB
    obtain ⟨⟨o, ho, h⟩, ⟨o2, ho2, h'⟩⟩ := h
    refine And.intro (fun h0 => absurd (h1.symm.trans h0) (by simp)) (fun j hj => ?_)
    rw [h1] at hj
    have hj : j = i ∨ j = k := by simpa using hj
    rcases hj with rfl | rfl
    · exact wpOp_mono (fun a' w' h' => ⟨fun _ _ => trivial, tree_sound hsel hQ ri n _ _ _ (by simp [Plan.deep] at hn; omega) h2 h'⟩) (wpOp_of_list ho h)
    · exact wpOp_mono (fun a' w' h' => ⟨fun _ _ => trivial, tree_sound hsel hQ rk n _ _ _ (by simp [Plan.deep] at hn; omega) h3 h'⟩) (wpOp_of_list ho2 h')
theorem region_tree {id : Nat} {a : Act} {w : World} (p : Plan) (hm : P.follows .mixedOrders = true)
    (hB : (Region.noSelect ops && decide (p.deep ≤ ops.size) && p.ok .any ops (Array.replicate ops.size false)) = true)
    (hQ : ∀ d v c a w, Q (.panic c) (a.put d v) w → Q (.panic c) a w)
    (h : wpTree P ops Q p a w.drew) : (Code.region id ops true).wp P Q a w := by
  simp only [Bool.and_eq_true, decide_eq_true_eq] at hB
  obtain ⟨⟨h1, h2⟩, h3⟩ := hB
  exact wp_region_last (S := fun _ => True) (ds := []) hm (tree_sound h1 hQ p ops.size _ a w.drew h2 h3 h)
theorem tree_pure {i : Nat} {o : Oper} {v : Value} {N : Option Tmp} {r : Plan} {a a' : Act} {w : World} (hi : ops[i]? = some o) (hN : o.dst = N) (hw : Region.wanted o (yielded ops a.tmps) = true)
    (hy : ∀ w, (execOp a.eval o).run P w = .ok (.value v) w) (ha : a.put N v = a') (h : wpTree P ops Q r a' w) : wpTree P ops Q (.pure i r) a w := by
  subst hN ha
  exact ⟨o, v, hi, .inl ⟨hw, hy⟩, h⟩
theorem tree_off {i : Nat} {o : Oper} {N : Option Tmp} {r : Plan} {a a' : Act} {w : World} (hi : ops[i]? = some o) (hN : o.dst = N) (hw : Region.wanted o (yielded ops a.tmps) = false)
    (ha : a.put N undef = a') (h : wpTree P ops Q r a' w) : wpTree P ops Q (.pure i r) a w := by
  subst hN ha
  exact ⟨o, undef, hi, .inr ⟨hw, rfl⟩, h⟩
theorem tree_one {i : Nat} {o : Oper} {r : Plan} {a : Act} {w : World} (hi : ops[i]? = some o) (h : wpList P ops (mixQ (wpTree P ops Q r) Q) [o] a w) : wpTree P ops Q (.one i r) a w := ⟨o, hi, h⟩
theorem tree_two {i j : Nat} {o o2 : Oper} {ri rj : Plan} {a : Act} {w : World} (hi : ops[i]? = some o) (hj : ops[j]? = some o2) (h : wpList P ops (mixQ (wpTree P ops Q ri) Q) [o] a w) (h2 : wpList P ops (mixQ (wpTree P ops Q rj) Q) [o2] a w) :
    wpTree P ops Q (.two i j ri rj) a w := ⟨⟨o, hi, h⟩, ⟨o2, hj, h2⟩⟩
theorem tree_done {a : Act} {w : World} (h : Q .normal a w) : wpTree P ops Q .done a w := h
theorem tree_on {r : Plan} {a : Act} {w : World} (h : wpTree P ops Q r a w) : mixQ (wpTree P ops Q r) Q .normal a w := h
end
end Go.Proofs.Ytfdandgcnocklaa.P
