/- A region that draws its order, walked in one order: operations that yield in every world are taken where they may come up, each other one when it alone may come up; no conditions. -/
import Derived.Test.YtfdandgcnocklaaWTab
import Derived.Tactics
import Derived.RegionTactic
namespace Go.Proofs.Ytfdandgcnocklaa.P
open Go.RowKit Go.Proofs.YtfdandgcnocklaaW.PrintWords Go.Proofs.YtfdandgcnocklaaW.PrintLast

def mixQ (R : Act → World → Prop) (Q : Exit → Act → World → Prop) : Exit → Act → World → Prop
  | .normal, a, w => R a w
  | e, a, w => Q e a w
/-- The steps: true: an operation that yields in every world. -/
def wpMix (P : Program) (ops : Array Oper) (Q : Exit → Act → World → Prop) : List (Bool × Oper) → Act → World → Prop
  | [], a, w => Q .normal a w
  | (true, o) :: r, a, w => ∃ v, Yields P ops o v a ∧ wpMix P ops Q r (a.put o.dst v) w
  | (false, o) :: r, a, w => wpList P ops (mixQ (wpMix P ops Q r) Q) [o] a w
def mixB (md : Region.Mode) (ops : Array Oper) : List (Nat × Bool) → Array Bool → Bool
  | [], l => Region.ready md ops l == []
  | (i, true) :: r, l => Region.free md ops l i && (Region.ready md ops l).contains i && mixB md ops r (l.setIfInBounds i true)
  | (i, false) :: r, l => (Region.ready md ops l == [i]) && mixB md ops r (l.setIfInBounds i true)
def planOps (ops : List Oper) (plan : List (Nat × Bool)) : List (Bool × Oper) := plan.filterMap fun p => (ops[p.1]?).map fun o => (p.2, o)

section
variable {P : Program} {ops : Array Oper} {Q : Exit → Act → World → Prop} {md : Region.Mode}
theorem upon_mixQ {o : Oper} {a : Act} {K R : Act → World → Prop} {r : Result Next} (h : o.upon P a K (mixQ R Q) r) : o.upon P a K Q r := by
  unfold Oper.upon at h ⊢
  split <;> simp_all [mixQ]
  rename_i f args w'
  refine h.mono fun e w'' hh => ?_
  cases e <;> first | exact hh | (obtain ⟨x, y, z⟩ := hh; exact ⟨x, y, z⟩)
theorem wpOp_of_list {i : Nat} {o : Oper} {a : Act} {w : World} {R : Act → World → Prop} (hi : ops[i]? = some o) (h : wpList P ops (mixQ R Q) [o] a w) : wpOp P ops Q i R a w := by
  unfold wpList at h
  unfold wpOp
  simp only [hi]
  split
  · rename_i hw
    rw [if_pos hw] at h
    rcases h with h | ⟨h, x, y, z⟩
    · exact .inl (Oper.wp_mono (fun _ _ q => q) (upon_mixQ h))
    · exact .inr ⟨h, x, y, z⟩
  · rename_i hw
    rw [if_neg hw] at h
    exact h
theorem mix_sound (hsel : Region.noSelect ops = true) (hQ : ∀ d v c a w, Q (.panic c) (a.put d v) w → Q (.panic c) a w) : ∀ (plan : List (Nat × Bool)) (l : Array Bool) (a : Act) (w : World),
    (∀ p ∈ plan, p.1 < ops.size) → mixB md ops plan l = true → wpMix P ops Q (planOps ops.toList plan) a w → wpAnyLast P md ops Q (fun _ => True) [] plan.length l a w
  | [], l, a, w, _, hB, h => by
    simp only [mixB, beq_iff_eq] at hB
    exact ⟨hB, h⟩
  | (i, b) :: r, l, a, w, hlt, hB, h => by
    have hi : i < ops.size := hlt (i, b) List.mem_cons_self
    have hio : ops[i]? = some ops[i] := Array.getElem?_eq_getElem hi
    have hpl : planOps ops.toList ((i, b) :: r) = (b, ops[i]) :: planOps ops.toList r := by
      simp [planOps, hi]
    rw [hpl] at h
    cases b with
    | true =>
      simp only [mixB, Bool.and_eq_true] at hB
      obtain ⟨⟨h1, h2⟩, h3⟩ := hB
      obtain ⟨v, hy, h⟩ := h
      exact wpAnyLast_any hio (Region.noSelect_spec hsel) (fun c a w => hQ _ _ c a w) r.length l a w (Region.free_spec hio h1) (by simpa using h2) hy
        (mix_sound hsel hQ r _ _ _ (fun p hp => hlt p (List.mem_cons_of_mem _ hp)) h3 h)
    | false =>
      simp only [mixB, Bool.and_eq_true, beq_iff_eq] at hB
      obtain ⟨h1, h2⟩ := hB
      refine And.intro (fun h0 => absurd (h1.symm.trans h0) (by simp)) (fun j hj => ?_)
      rw [h1] at hj
      obtain rfl : j = i := by simpa using hj
      refine wpOp_mono (fun a' w' h' => ⟨fun _ _ => trivial, mix_sound hsel hQ r _ _ _ (fun p hp => hlt p (List.mem_cons_of_mem _ hp)) h2 h'⟩) (wpOp_of_list hio h)
theorem region_mix {id : Nat} {a : Act} {w : World} {l : List Oper} (plan : List (Nat × Bool)) (hm : P.follows .mixedOrders = true)
    (hB : (Region.noSelect l.toArray && (plan.length == l.length) && plan.all (fun p => decide (p.1 < l.length)) && mixB .any l.toArray plan (Array.replicate l.length false)) = true)
    (hQ : ∀ d v c a w, Q (.panic c) (a.put d v) w → Q (.panic c) a w)
    (h : wpMix P l.toArray Q (planOps l plan) a w.drew) : (Code.region id l.toArray true).wp P Q a w := by
  simp only [Bool.and_eq_true, beq_iff_eq, List.all_eq_true, decide_eq_true_eq] at hB
  obtain ⟨⟨⟨h1, h2⟩, h3⟩, h4⟩ := hB
  refine wp_region_last (S := fun _ => True) (ds := []) hm ?_
  have := mix_sound (P := P) (md := .any) h1 hQ plan (Array.replicate l.length false) a w.drew (fun p hp => by simpa using h3 p hp) h4 (by simpa using h)
  rw [h2] at this
  simpa using this
theorem mix_pure {o : Oper} {v : Value} {N : Option Tmp} {r : List (Bool × Oper)} {a a' : Act} {w : World} (hN : o.dst = N) (hw : Region.wanted o (yielded ops a.tmps) = true) (hy : ∀ w, (execOp a.eval o).run P w = .ok (.value v) w)
    (ha : a.put N v = a') (h : wpMix P ops Q r a' w) : wpMix P ops Q ((true, o) :: r) a w := by
  subst hN ha
  exact ⟨v, .inl ⟨hw, hy⟩, h⟩
theorem mix_off {o : Oper} {N : Option Tmp} {r : List (Bool × Oper)} {a a' : Act} {w : World} (hN : o.dst = N) (hw : Region.wanted o (yielded ops a.tmps) = false)
    (ha : a.put N undef = a') (h : wpMix P ops Q r a' w) : wpMix P ops Q ((true, o) :: r) a w := by
  subst hN ha
  exact ⟨undef, .inr ⟨hw, rfl⟩, h⟩
theorem mix_one {o : Oper} {r : List (Bool × Oper)} {a : Act} {w : World} (h : wpList P ops (mixQ (wpMix P ops Q r) Q) [o] a w) : wpMix P ops Q ((false, o) :: r) a w := h
theorem mix_end {a : Act} {w : World} (h : Q .normal a w) : wpMix P ops Q [] a w := h
theorem upon_mixQ' {o : Oper} {a : Act} {K R : Act → World → Prop} {r : Result Next} (h : o.upon P a K Q r) : o.upon P a K (mixQ R Q) r := by
  unfold Oper.upon at h ⊢
  split <;> simp_all [mixQ]
  rename_i f args w'
  refine h.mono fun e w'' hh => ?_
  cases e <;> first | exact hh | (obtain ⟨x, y, z⟩ := hh; exact ⟨x, y, z⟩)
/-- What is left comes up one by one: it is walked as a list. -/
theorem mix_tail : ∀ (l : List Oper) (a : Act) (w : World), wpList P ops Q l a w → wpMix P ops Q (l.map fun o => (false, o)) a w
  | [], _, _, h => h
  | o :: r, a, w, h => by
    show wpList P ops (mixQ (wpMix P ops Q (r.map fun o => (false, o))) Q) [o] a w
    unfold wpList at h ⊢
    split
    · rename_i hw
      rw [if_pos hw] at h
      rcases h with h | ⟨h, x, y, z⟩
      · exact .inl (upon_mixQ' (Oper.wp_mono (fun a w q => mix_tail r a w q) h))
      · exact .inr ⟨h, x, y, z⟩
    · rename_i hw
      rw [if_neg hw] at h
      exact mix_tail r _ _ h
theorem mix_tail1 {o : Oper} {a : Act} {w : World} (h : wpList P ops Q [o] a w) : wpMix P ops Q [(false, o)] a w := by
  show wpList P ops (mixQ (wpMix P ops Q []) Q) [o] a w
  have e : mixQ (wpMix P ops Q []) Q = Q := by
    funext e a w
    cases e <;> rfl
  rw [e]
  exact h
end
end Go.Proofs.Ytfdandgcnocklaa.P
