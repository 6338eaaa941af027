/- Several texts of this session's own as one. -/
import Derived.Test.YthgnhhdblbiihaaWTab
import Derived.Tactics
import Derived.RegionTactic
import Derived.Test.YthgnhhdblbiihaaWWords
import Derived.Test.YthgnhhdblbiihaaP0
import Derived.ArgAppend
namespace Go.Proofs.Ythgnhhdblbiihaa.P
open Go.RowKit Go.Proofs.YthgnhhdblbiihaaW.PrintWords Go.Proofs.YthgnhhdblbiihaaW.PrintLast

def mixQ (R : Act → World → Prop) (Q : Exit → Act → World → Prop) : Exit → Act → World → Prop
  | .normal, a, w => R a w
  | e, a, w => Q e a w
/-- The steps: true: an operation that yields in every world. -/
def wpMix (P : Program) (ops : Array Oper) (Q : Exit → Act → World → Prop) : List (Bool × Oper) → Act → World → Prop
  | [], a, w => Q .normal a w
  | (true, o) :: r, a, w => ∃ v, Yields P ops o v a ∧ wpMix P ops Q r (a.put o.dst v) w
  | (false, o) :: r, a, w => wpList P ops (mixQ (wpMix P ops Q r) Q) [o] a w
def mixB (md : Region.Mode) (ops : Array Oper) : List (Nat × Bool) → Array Bool → Bool
  | [], l => Region.ready md ops l == []
  | (i, true) :: r, l => Region.free md ops l i && (Region.ready md ops l).contains i && mixB md ops r (l.setIfInBounds i true)
  | (i, false) :: r, l => (Region.ready md ops l == [i]) && mixB md ops r (l.setIfInBounds i true)
def planOps (ops : List Oper) (plan : List (Nat × Bool)) : List (Bool × Oper) := plan.filterMap fun p => (ops[p.1]?).map fun o => (p.2, o)

section
variable {P : Program} {ops : Array Oper} {Q : Exit → Act → World → Prop} {md : Region.Mode}
theorem upon_mixQ {o : Oper} {a : Act} {K R : Act → World → Prop} {r : Result Next} (h : o.upon P a K (mixQ R Q) r) : o.upon P a K Q r := by
  unfold Oper.upon at h ⊢
  split <;> simp_all [mixQ]
  rename_i f args w'
  refine h.mono fun e w'' hh => ?_
  cases e <;> first | exact hh | (obtain ⟨x, y, z⟩ := hh; exact ⟨x, y, z⟩)
theorem wpOp_of_list {i : Nat} {o : Oper} {a : Act} {w : World} {R : Act → World → Prop} (hi : ops[i]? = some o) (h : wpList P ops (mixQ R Q) [o] a w) : wpOp P ops Q i R a w := by
  unfold wpList at h
  unfold wpOp
  simp only [hi]
  split
  · rename_i hw
    rw [if_pos hw] at h
    rcases h with h | ⟨h, x, y, z⟩
    · exact .inl (Oper.wp_mono (fun _ _ q => q) (upon_mixQ h))
    · exact .inr ⟨h, x, y, z⟩
  · rename_i hw
    rw [if_neg hw] at h
    exact h
theorem mix_sound (hsel : Region.noSelect ops = true) (hQ : ∀ d v c a w, Q (.panic c) (a.put d v) w → Q (.panic c) a w) : ∀ (plan : List (Nat × Bool)) (l : Array Bool) (a : Act) (w : World),
    (∀ p ∈ plan, p.1 < ops.size) → mixB md ops plan l = true → wpMix P ops Q (planOps ops.toList plan) a w → wpAnyLast P md ops Q (fun _ => True) [] plan.length l a w
  | [], l, a, w, _, hB, h => by
    simp only [mixB, beq_iff_eq] at hB
    exact ⟨hB, h⟩
  | (i, b) :: r, l, a, w, hlt, hB, h => by
    have hi : i < ops.size := hlt (i, b) List.mem_cons_self
    have hio : ops[i]? = some ops[i] := Array.getElem?_eq_getElem hi
    have hpl : planOps ops.toList ((i, b) :: r) = (b, ops[i]) :: planOps ops.toList r := by
      simp [planOps, hi]
    rw [hpl] at h
    cases b with
    | true =>
      simp only [mixB, Bool.and_eq_true] at hB
      obtain ⟨⟨h1, h2⟩, h3⟩ := hB
      obtain ⟨v, hy, h⟩ := h
      exact wpAnyLast_any hio (Region.noSelect_spec hsel) (fun c a w => hQ _ _ c a w) r.length l a w (Region.free_spec hio h1) (by simpa using h2) hy
        (mix_sound hsel hQ r _ _ _ (fun p hp => hlt p (List.mem_cons_of_mem _ hp)) h3 h)
    | false =>
      simp only [mixB, Bool.and_eq_true, beq_iff_eq] at hB
      obtain ⟨h1, h2⟩ := hB
      refine And.intro (fun h0 => absurd (h1.symm.trans h0) (by simp)) (fun j hj => ?_)
      rw [h1] at hj
      obtain rfl : j = i := by simpa using hj
      refine wpOp_mono (fun a' w' h' => ⟨fun _ _ => trivial, mix_sound hsel hQ r _ _ _ (fun p hp => hlt p (List.mem_cons_of_mem _ hp)) h2 h'⟩) (wpOp_of_list hio h)
theorem region_mix {id : Nat} {a : Act} {w : World} {l : List Oper} (plan : List (Nat × Bool)) (hm : P.follows .mixedOrders = true)
    (hB : (Region.noSelect l.toArray && (plan.length == l.length) && plan.all (fun p => decide (p.1 < l.length)) && mixB .any l.toArray plan (Array.replicate l.length false)) = true)
    (hQ : ∀ d v c a w, Q (.panic c) (a.put d v) w → Q (.panic c) a w)
    (h : wpMix P l.toArray Q (planOps l plan) a w.drew) : (Code.region id l.toArray true).wp P Q a w := by
  simp only [Bool.and_eq_true, beq_iff_eq, List.all_eq_true, decide_eq_true_eq] at hB
  obtain ⟨⟨⟨h1, h2⟩, h3⟩, h4⟩ := hB
  refine wp_region_last (S := fun _ => True) (ds := []) hm ?_
  have := mix_sound (P := P) (md := .any) h1 hQ plan (Array.replicate l.length false) a w.drew (fun p hp => by simpa using h3 p hp) h4 (by simpa using h)
  rw [h2] at this
  simpa using this
theorem mix_pure {o : Oper} {v : Value} {N : Option Tmp} {r : List (Bool × Oper)} {a a' : Act} {w : World} (hN : o.dst = N) (hw : Region.wanted o (yielded ops a.tmps) = true) (hy : ∀ w, (execOp a.eval o).run P w = .ok (.value v) w)
    (ha : a.put N v = a') (h : wpMix P ops Q r a' w) : wpMix P ops Q ((true, o) :: r) a w := by
  subst hN ha
  exact ⟨v, .inl ⟨hw, hy⟩, h⟩
theorem mix_off {o : Oper} {N : Option Tmp} {r : List (Bool × Oper)} {a a' : Act} {w : World} (hN : o.dst = N) (hw : Region.wanted o (yielded ops a.tmps) = false)
    (ha : a.put N undef = a') (h : wpMix P ops Q r a' w) : wpMix P ops Q ((true, o) :: r) a w := by
  subst hN ha
  exact ⟨undef, .inr ⟨hw, rfl⟩, h⟩
theorem mix_one {o : Oper} {r : List (Bool × Oper)} {a : Act} {w : World} (h : wpList P ops (mixQ (wpMix P ops Q r) Q) [o] a w) : wpMix P ops Q ((false, o) :: r) a w := h
theorem mix_end {a : Act} {w : World} (h : Q .normal a w) : wpMix P ops Q [] a w := h
theorem upon_mixQ' {o : Oper} {a : Act} {K R : Act → World → Prop} {r : Result Next} (h : o.upon P a K Q r) : o.upon P a K (mixQ R Q) r := by
  unfold Oper.upon at h ⊢
  split <;> simp_all [mixQ]
  rename_i f args w'
  refine h.mono fun e w'' hh => ?_
  cases e <;> first | exact hh | (obtain ⟨x, y, z⟩ := hh; exact ⟨x, y, z⟩)
/-- What is left comes up one by one: it is walked as a list. -/
theorem mix_tail : ∀ (l : List Oper) (a : Act) (w : World), wpList P ops Q l a w → wpMix P ops Q (l.map fun o => (false, o)) a w
  | [], _, _, h => h
  | o :: r, a, w, h => by
    show wpList P ops (mixQ (wpMix P ops Q (r.map fun o => (false, o))) Q) [o] a w
    unfold wpList at h ⊢
    split
    · rename_i hw
      rw [if_pos hw] at h
      rcases h with h | ⟨h, x, y, z⟩
      · exact .inl (upon_mixQ' (Oper.wp_mono (fun a w q => mix_tail r a w q) h))
      · exact .inr ⟨h, x, y, z⟩
    · rename_i hw
      rw [if_neg hw] at h
      exact mix_tail r _ _ h
theorem mix_tail1 {o : Oper} {a : Act} {w : World} (h : wpList P ops Q [o] a w) : wpMix P ops Q [(false, o)] a w := by
  show wpList P ops (mixQ (wpMix P ops Q []) Q) [o] a w
  have e : mixQ (wpMix P ops Q []) Q = Q := by
    funext e a w
    cases e <;> rfl
  rw [e]
  exact h
end
end Go.Proofs.Ythgnhhdblbiihaa.P

namespace Go.Proofs.Ythgnhhdblbiihaa.P
open Go.RowKit Go.Proofs.YthgnhhdblbiihaaW.PrintWords Go.Proofs.YthgnhhdblbiihaaW.PrintLast

inductive Plan
  | done
  | pure (i : Nat) (r : Plan)
  | one (i : Nat) (r : Plan)
  | two (i j : Nat) (ri rj : Plan)
def Plan.deep : Plan → Nat
  | .done => 0
  | .pure _ r => r.deep + 1
  | .one _ r => r.deep + 1
  | .two _ _ ri rj => max ri.deep rj.deep + 1
def Plan.ok (md : Region.Mode) (ops : Array Oper) : Plan → Array Bool → Bool
  | .done, l => Region.ready md ops l == []
  | .pure i r, l => Region.free md ops l i && (Region.ready md ops l).contains i && r.ok md ops (l.setIfInBounds i true)
  | .one i r, l => (Region.ready md ops l == [i]) && r.ok md ops (l.setIfInBounds i true)
  | .two i j ri rj, l => (Region.ready md ops l == [i, j]) && ri.ok md ops (l.setIfInBounds i true) && rj.ok md ops (l.setIfInBounds j true)
def wpTree (P : Program) (ops : Array Oper) (Q : Exit → Act → World → Prop) : Plan → Act → World → Prop
  | .done, a, w => Q .normal a w
  | .pure i r, a, w => ∃ o v, ops[i]? = some o ∧ Yields P ops o v a ∧ wpTree P ops Q r (a.put o.dst v) w
  | .one i r, a, w => ∃ o, ops[i]? = some o ∧ wpList P ops (mixQ (wpTree P ops Q r) Q) [o] a w
  | .two i j ri rj, a, w => (∃ o, ops[i]? = some o ∧ wpList P ops (mixQ (wpTree P ops Q ri) Q) [o] a w) ∧ (∃ o, ops[j]? = some o ∧ wpList P ops (mixQ (wpTree P ops Q rj) Q) [o] a w)

section
variable {P : Program} {ops : Array Oper} {Q : Exit → Act → World → Prop} {md : Region.Mode}
theorem tree_sound (hsel : Region.noSelect ops = true) (hQ : ∀ d v c a w, Q (.panic c) (a.put d v) w → Q (.panic c) a w) : ∀ (p : Plan) (n : Nat) (l : Array Bool) (a : Act) (w : World),
    p.deep ≤ n → p.ok md ops l = true → wpTree P ops Q p a w → wpAnyLast P md ops Q (fun _ => True) [] n l a w
  | .done, n, l, a, w, _, hB, h => done_ hB h
  | .pure i r, n, l, a, w, hn, hB, h => by
    obtain ⟨n, rfl⟩ : ∃ m, n = m + 1 := ⟨n - 1, by simp [Plan.deep] at hn; omega⟩
    simp only [Plan.ok, Bool.and_eq_true] at hB
    obtain ⟨⟨h1, h2⟩, h3⟩ := hB
    obtain ⟨o, v, ho, hy, h⟩ := h
    exact wpAnyLast_any ho (Region.noSelect_spec hsel) (fun c a w => hQ _ _ c a w) n l a w (Region.free_spec ho h1) (by simpa using h2) hy
      (tree_sound hsel hQ r n _ _ _ (by simp [Plan.deep] at hn; omega) h3 h)
  | .one i r, n, l, a, w, hn, hB, h => by
    obtain ⟨n, rfl⟩ : ∃ m, n = m + 1 := ⟨n - 1, by simp [Plan.deep] at hn; omega⟩
    simp only [Plan.ok, Bool.and_eq_true, beq_iff_eq] at hB
    obtain ⟨h1, h2⟩ := hB
    obtain ⟨o, ho, h⟩ := h
    refine And.intro (fun h0 => absurd (h1.symm.trans h0) (by simp)) (fun j hj => ?_)
    rw [h1] at hj
    obtain rfl : j = i := by simpa using hj
    exact wpOp_mono (fun a' w' h' => ⟨fun _ _ => trivial, tree_sound hsel hQ r n _ _ _ (by simp [Plan.deep] at hn; omega) h2 h'⟩) (wpOp_of_list ho h)
  | .two i k ri rk, n, l, a, w, hn, hB, h => by
    obtain ⟨n, rfl⟩ : ∃ m, n = m + 1 := ⟨n - 1, by simp [Plan.deep] at hn; omega⟩
    simp only [Plan.ok, Bool.and_eq_true, beq_iff_eq] at hB
    obtain ⟨⟨h1, h2⟩, h3⟩ := hB
    obtain ⟨⟨o, ho, h⟩, ⟨o2, ho2, h'⟩⟩ := h
    refine And.intro (fun h0 => absurd (h1.symm.trans h0) (by simp)) (fun j hj => ?_)
    rw [h1] at hj
    have hj : j = i ∨ j = k := by simpa using hj
    rcases hj with rfl | rfl
    · exact wpOp_mono (fun a' w' h' => ⟨fun _ _ => trivial, tree_sound hsel hQ ri n _ _ _ (by simp [Plan.deep] at hn; omega) h2 h'⟩) (wpOp_of_list ho h)
    · exact wpOp_mono (fun a' w' h' => ⟨fun _ _ => trivial, tree_sound hsel hQ rk n _ _ _ (by simp [Plan.deep] at hn; omega) h3 h'⟩) (wpOp_of_list ho2 h')
theorem region_tree {id : Nat} {a : Act} {w : World} (p : Plan) (hm : P.follows .mixedOrders = true)
    (hB : (Region.noSelect ops && decide (p.deep ≤ ops.size) && p.ok .any ops (Array.replicate ops.size false)) = true)
    (hQ : ∀ d v c a w, Q (.panic c) (a.put d v) w → Q (.panic c) a w)
    (h : wpTree P ops Q p a w.drew) : (Code.region id ops true).wp P Q a w := by
  simp only [Bool.and_eq_true, decide_eq_true_eq] at hB
  obtain ⟨⟨h1, h2⟩, h3⟩ := hB
  exact wp_region_last (S := fun _ => True) (ds := []) hm (tree_sound h1 hQ p ops.size _ a w.drew h2 h3 h)
theorem tree_pure {i : Nat} {o : Oper} {v : Value} {N : Option Tmp} {r : Plan} {a a' : Act} {w : World} (hi : ops[i]? = some o) (hN : o.dst = N) (hw : Region.wanted o (yielded ops a.tmps) = true)
    (hy : ∀ w, (execOp a.eval o).run P w = .ok (.value v) w) (ha : a.put N v = a') (h : wpTree P ops Q r a' w) : wpTree P ops Q (.pure i r) a w := by
  subst hN ha
  exact ⟨o, v, hi, .inl ⟨hw, hy⟩, h⟩
theorem tree_off {i : Nat} {o : Oper} {N : Option Tmp} {r : Plan} {a a' : Act} {w : World} (hi : ops[i]? = some o) (hN : o.dst = N) (hw : Region.wanted o (yielded ops a.tmps) = false)
    (ha : a.put N undef = a') (h : wpTree P ops Q r a' w) : wpTree P ops Q (.pure i r) a w := by
  subst hN ha
  exact ⟨o, undef, hi, .inr ⟨hw, rfl⟩, h⟩
theorem tree_one {i : Nat} {o : Oper} {r : Plan} {a : Act} {w : World} (hi : ops[i]? = some o) (h : wpList P ops (mixQ (wpTree P ops Q r) Q) [o] a w) : wpTree P ops Q (.one i r) a w := ⟨o, hi, h⟩
theorem tree_two {i j : Nat} {o o2 : Oper} {ri rj : Plan} {a : Act} {w : World} (hi : ops[i]? = some o) (hj : ops[j]? = some o2) (h : wpList P ops (mixQ (wpTree P ops Q ri) Q) [o] a w) (h2 : wpList P ops (mixQ (wpTree P ops Q rj) Q) [o2] a w) :
    wpTree P ops Q (.two i j ri rj) a w := ⟨⟨o, hi, h⟩, ⟨o2, hj, h2⟩⟩
theorem tree_done {a : Act} {w : World} (h : Q .normal a w) : wpTree P ops Q .done a w := h
theorem tree_on {r : Plan} {a : Act} {w : World} (h : wpTree P ops Q r a w) : mixQ (wpTree P ops Q r) Q .normal a w := h
end
end Go.Proofs.Ythgnhhdblbiihaa.P

namespace Go.Proofs.Ythgnhhdblbiihaa.P
open Go.RowKit Go.Proofs.YthgnhhdblbiihaaW.PrintWords
set_option linter.unusedVariables false
set_option linter.unusedSimpArgs false

/-- Block g, none of whose first cap cells is frozen, holds xs in its first n cells. -/
structure RowB (w : World) (base g n cap : Nat) (xs : List Int) : Prop where
  hle : base ≤ g
  hlen : xs.length = n
  hcap : n ≤ cap
  hblk : ∃ (cs : Array Value) (e : TypeId) (f1 f2 : Nat), w.heap[g]? = some (.cells cs e (f1, f2)) ∧ cap ≤ cs.size ∧ (cap ≤ f1 ∨ f2 ≤ f1) ∧ ∀ j, j < n → cs[j]? = some (.int .u8 (xs.getD j 0))

section
variable {w w1 : World} {base g n cap : Nat} {xs : List Int}
theorem RowB.lt (h : RowB w base g n cap xs) : g < w.heap.size := by
  obtain ⟨cs, e, f1, f2, hb, _⟩ := h.hblk
  exact (Array.getElem?_eq_some_iff.1 hb).1
theorem RowB.cell (h : RowB w base g n cap xs) (j : Nat) (hj : j < n) : w.cell? ⟨g, j, none⟩ = some (.int .u8 (xs.getD j 0)) := by
  obtain ⟨cs, e, f1, f2, hb, _, _, hc⟩ := h.hblk
  simp only [World.cell?, hb]
  simpa using hc j hj
theorem RowB.free (h : RowB w base g n cap xs) (j : Nat) (hj : j < cap) : (w.cell? ⟨g, j, none⟩).isSome = true ∧ w.frozen? ⟨g, j, none⟩ = false := by
  obtain ⟨cs, e, f1, f2, hb, hs, hf, _⟩ := h.hblk
  simp only [World.cell?, World.frozen?, hb]
  have : j < cs.size := by omega
  constructor
  · simp [this]
  · simp
    omega
theorem RowB.of_block (h : RowB w base g n cap xs) (hb : w1.heap[g]? = w.heap[g]?) : RowB w1 base g n cap xs :=
  ⟨h.hle, h.hlen, h.hcap, by rw [hb]; exact h.hblk⟩
theorem RowB.below (h : RowB w base g n cap xs) (hb : Below w.heap.size w w1) : RowB w1 base g n cap xs := h.of_block (hb.block g h.lt)
theorem RowB.drew (h : RowB w base g n cap xs) : RowB w.drew base g n cap xs := h.of_block rfl
theorem RowB.alloc (h : RowB w base g n cap xs) (o : Obj) : RowB (w.alloc o) base g n cap xs := h.of_block (Below.heap_alloc w o g h.lt)
theorem RowB.setCells_ (h : RowB w base g n cap xs) (hlt : n < cap) (x : Int) : RowB (w.setCells g n [.int .u8 x]) base g (n + 1) cap (xs ++ [x]) := by
  obtain ⟨cs, e, f1, f2, hb, hs, hf, hc⟩ := h.hblk
  refine ⟨h.hle, by rw [List.length_append, h.hlen]; rfl, hlt, cs.setIfInBounds n (.int .u8 x), e, f1, f2, ?_, by simpa using hs, hf, fun j hj => ?_⟩
  · have hg : g < w.heap.size := h.lt
    have e1 := (Array.getElem?_eq_some_iff.1 hb).2
    simp [World.setCells, World.setCell, Array.getElem?_modify, hb]
  · by_cases e : j = n
    · have hl := h.hlen
      have h2 : j < cs.size := by omega
      have h3 : j = xs.length := by omega
      rw [e, Array.getElem?_setIfInBounds_self_of_lt (by omega), ← e, h3]
      simp [List.getD_eq_getElem?_getD]
    · have hj2 : j < n := by omega
      rw [Array.getElem?_setIfInBounds_ne (by omega), hc j hj2]
      simp [List.getD_eq_getElem?_getD, List.getElem?_append_left (show j < xs.length by rw [h.hlen]; exact hj2)]
theorem RowB.set (h : RowB w base g n cap xs) (i : Nat) (hi : i < n) (x : Int) : RowB (w.setCell ⟨g, i, none⟩ (.int .u8 x)) base g n cap (xs.set i x) := by
  obtain ⟨cs, e, f1, f2, hb, hs, hf, hc⟩ := h.hblk
  refine ⟨h.hle, by rw [List.length_set]; exact h.hlen, h.hcap, cs.setIfInBounds i (.int .u8 x), e, f1, f2, ?_, by simpa using hs, hf, fun j hj => ?_⟩
  · have hg : g < w.heap.size := h.lt
    simp [World.setCell, Array.getElem?_modify, hb]
  · have hl := h.hlen
    have hcp := h.hcap
    by_cases e : j = i
    · subst e
      have : j < cs.size := by omega
      have h2 : j < xs.length := by omega
      simp [this, h2, List.getD_eq_getElem?_getD]
    · rw [Array.getElem?_setIfInBounds_ne (by omega), hc j hj]
      simp [List.getD_eq_getElem?_getD, List.getElem?_set_ne (show i ≠ j by omega)]
theorem RowB.of_own {e : TypeId} {v : Value} (h : w.ownsRow base e 1 v n (nums .u8 xs)) (hn : 0 < n) : ∃ g cap, v = .slice (some ⟨g, 0, none⟩) n cap ∧ RowB w base g n cap xs := by
  have hl : xs.length = n := by have := h.1; simp [nums] at this; exact this
  rcases h.2 with ⟨_, h0⟩ | ⟨g, cap, cur, rfl, hb, hh, hc, _, hs, ht⟩
  · omega
  · refine ⟨g, cap, rfl, hb, hl, hc, cur, e, 0, 0, hh, by omega, .inr (Nat.le_refl _), fun j hj => ?_⟩
    have h1 : (cur.toList.take (n * 1))[j]? = (nums .u8 xs)[j]? := by rw [ht]
    rw [List.getElem?_take_of_lt (by omega)] at h1
    rw [Array.getElem?_toList] at h1
    rw [h1]
    simp [nums, List.getElem?_eq_getElem (show j < xs.length by omega), List.getD_eq_getElem?_getD]
theorem RowB.of_bytes (w : World) (e : TypeId) (s : ByteArray) (hb : base ≤ w.heap.size) (hs : s.size ≤ 9223372036854775807) : RowB (Lib.bytesWorld w e s) base w.heap.size s.size (grownCap w s.size 0 e) (bytesOf s) := by
  have hg : s.size ≤ grownCap w s.size 0 e := grownCap_ge w s.size 0 e
  refine ⟨hb, bytesOf_length s, hg, _, e, _, _, Lib.bytesWorld_at_new w e s, ?_, .inl ?_, fun j hj => ?_⟩
  · simp [Lib.bytesCells]; omega
  · simp [Lib.bytesCells]; omega
  · have h' : j < s.data.size := hj
    simp [Lib.bytesCells, Array.getElem?_append, bytesOf, List.getD_eq_getElem?_getD, hj, Array.getElem?_eq_getElem h']
theorem RowB.drop_reads (h : RowB w base g n cap xs) (i : Nat) (hi : i ≤ n) (hn : n ≤ 9223372036854775807) : ReadsInt w .u8 (some ⟨g, i, none⟩) (n - i) (xs.drop i) := by
  refine ⟨by rw [List.length_drop, h.hlen], by omega, fun hp => ⟨_, rfl, fun j hj => ?_⟩⟩
  have e : (⟨g, i, none⟩ : Addr).add j = ⟨g, i + j, none⟩ := by unfold Addr.add; split <;> simp_all
  rw [e, h.cell (i + j) (by omega)]
  simp [List.getD_eq_getElem?_getD, List.getElem?_drop]
end

section
variable {P : Program} {ops : Array Oper} {rest : List Oper} {o : Oper} {a : Act} {Q : Exit → Act → World → Prop}
/-- append(l, x), l such a row: behind 'at_builtin', the goal's world is 'W.alloc' of the one new element. -/
theorem rowB_append {w0 W : World} (base : Nat) (hgd : o.guard = none) (s x : Operand) (t e : TypeId)
    (ho : o.op = .call { callee := .builtin .append, args := #[s, x], argTypes := #[t, t] })
    (ht : P.underlying t = some (.slice e)) (hinfo : (P.info? e).map (fun i => (i.zero, i.size, i.bytes)) = some (some (.int .u8 0), 1, 1))
    (g n cap : Nat) (xs : List Int) (y : Int) (hs : a.eval s = .slice (some ⟨g, 0, none⟩) n cap) (hx : a.eval x = .slice (some ⟨W.heap.size, 0, none⟩) 1 1)
    (HO : RowB W base g n cap xs) (HB : Below base w0 W) (hl : n + 1 ≤ 140737488355328)
    (h : ∀ g1 cap1 w1, RowB w1 base g1 (n + 1) cap1 (xs ++ [y]) → Below base w0 w1 → wpList P ops Q rest (a.put o.dst (.slice (some ⟨g1, 0, none⟩) (n + 1) cap1)) w1) :
    wpList P ops Q (o :: rest) a (W.alloc (.cells #[.int .u8 y] e)) := by
  obtain ⟨i0, hi, hzz⟩ := Option.map_eq_some_iff.1 hinfo
  simp only [Prod.mk.injEq] at hzz
  obtain ⟨hz0, hz1, hz2⟩ := hzz
  have HA := HO.alloc (.cells #[.int .u8 y] e)
  have hbase : base ≤ W.heap.size := Nat.le_trans HO.hle (Nat.le_of_lt HO.lt)
  have HB1 := HB.alloc hbase (.cells #[.int .u8 y] e)
  have hnews : ∀ j u, ([.int .u8 y] : List Value)[j]? = some u → (W.alloc (.cells #[.int .u8 y] e)).cell? ((⟨W.heap.size, 0, none⟩ : Addr).add j) = some u :=
    World.news_of_block (cs := #[.int .u8 y]) (t := e) (fr := (0, 0)) (heap_alloc_new W _)
  have hln := HO.hlen
  refine wpList_append_arg (W.alloc (.cells #[.int .u8 y] e)) hgd s x t ho e i0 (.int .u8 0) 1 1 ht hi hz0 hz1 hz2 rfl (by decide) g 0 n cap (nums .u8 xs) hs (by rw [nums_length]; omega) ?_ ⟨W.heap.size, 0, none⟩ 1 1 [.int .u8 y] hx rfl hnews (by simp [Value.oneCell']) ?_ (by simp only [maxLen]; omega) (by omega) ?_ ?_
  · intro j u hj
    rw [Nat.zero_add]
    have hjn : j < xs.length := by
      rcases Nat.lt_or_ge j xs.length with h | h
      · exact h
      · simp [nums, List.getElem?_eq_none h] at hj
    simp [nums, List.getElem?_eq_getElem hjn] at hj
    rw [HA.cell j (by omega), ← hj]
    simp [List.getD_eq_getElem?_getD, hjn]
  · intro hroom j hj
    obtain rfl : j = 0 := by simpa using hj
    have := HA.free n (by omega)
    simpa using this
  · intro hroom
    have h1 := HA.setCells_ (show n < cap by omega) y
    have h2 : 0 + n * 1 = n := by omega
    rw [h2]
    exact h g cap _ h1 (HB1.setCell HO.hle _)
  · intro hfull v' w' hown hgrow
    have h0 : nums .u8 xs ++ [.int .u8 y] = nums .u8 (xs ++ [y]) := by simp [nums]
    rw [h0] at hown
    obtain ⟨g1, c1, rfl, hR⟩ := RowB.of_own (base := (W.alloc (.cells #[.int .u8 y] e)).heap.size) hown (by omega)
    refine h g1 c1 w' ⟨by have := hR.hle; simp at this; omega, hR.hlen, hR.hcap, hR.hblk⟩ ?_
    exact HB1.grown hgrow (by simp; omega) (fun k hk => by cases hk)
end
end Go.Proofs.Ythgnhhdblbiihaa.P
