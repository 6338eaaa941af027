/- Maps keyed by whole numbers with how many entries there are, and what is still to come where one is ranged over; no conditions. -/
import Derived.Test.YtaninnkhdhpcgaaGObj
import Derived.Maps.RangeWalk
namespace Go.Proofs.Ytaninnkhdhpcgaa.P
open Go.RowKit Go.Maps Go.ChangeMaps Go.Proofs.YtaninnkhdhpcgaaW.PrintWords Go.Proofs.YtaninnkhdhpcgaaW.PrintLast
set_option linter.unusedVariables false

def ReadsI (q : IntKind) (D : DataW Value) (f : Int → Option Value) : Prop := ∀ i : Int, (Lit.int q i).wf = true → (∀ z, D.atKey (.int q i) (.held z) = .held ((f i).getD z)) ∧ Maps.has D (.int q i) = (f i).isSome
/-- Block b is a map of s entries: f i is what stands at i. -/
def MapZ (P : Program) (kt : TypeId) (q : IntKind) (w : World) (b s : Nat) (f : Int → Option Value) : Prop :=
  ∃ D, w.ownsMap P kt Rv b s D ∧ ReadsI q D f ∧ Maps.size D = s
/-- The same map, ranged over by the iterator in block r: the entries of left are still to come, cnt of them. -/
def RangeZ (P : Program) (kt : TypeId) (q : IntKind) (w : World) (b r s : Nat) (f : Int → Option Value) (left : Int → Bool) (cnt : Nat) : Prop :=
  ∃ D l, w.ranges P kt Rv b r s D l cnt ∧ ReadsI q D f ∧ Maps.size D = s ∧ ∀ i : Int, (Lit.int q i).wf = true → l (.int q i) = left i
theorem setM_none (f : Int → Option Value) (i : Int) (h : f i = none) : setM f i none = f := by
  funext j
  unfold setM
  by_cases e : j = i
  · rw [if_pos e, e, h]
  · rw [if_neg e]
section
variable {P : Program} {kt : TypeId} {q : IntKind} {w w1 : World} {b s r cnt : Nat} {f : Int → Option Value} {left : Int → Bool} {S : Nat → Prop}
theorem ownsMap_size {R : Value → Option (DataW Value × List MemPlace)} {n : Nat} {D : DataW Value} (h : w.ownsMap P kt R b n D) : w.ownsMap P kt R b (Maps.size D) D := by
  obtain ⟨es, cl, hb, F, hs, rfl⟩ := h
  refine ⟨es, cl, hb, F, ?_, rfl⟩
  simp [Maps.size, length_sorted]
theorem MapZ.mapI (h : MapZ P kt q w b s f) : MapI P kt q w b s f := by
  obtain ⟨D, hD, hf, _⟩ := h
  exact ⟨D, hD, hf⟩
theorem MapZ.made (w : World) (P : Program) (kt : TypeId) (q : IntKind) : MapZ P kt q (w.alloc (.map #[] 0)) w.heap.size 0 (fun _ => none) :=
  ⟨_, World.ownsMap_made w P kt Rv, fun i _ => ⟨fun z => rfl, rfl⟩, rfl⟩
theorem MapZ.block (h : MapZ P kt q w b s f) : ∃ es cl, w.heap[b]? = some (.map es cl) := h.mapI.block
theorem MapZ.lt (h : MapZ P kt q w b s f) : b < w.heap.size := h.mapI.lt
theorem MapZ.keep (h : MapZ P kt q w b s f) (hb : w1.heap[b]? = w.heap[b]?) : MapZ P kt q w1 b s f := by
  obtain ⟨D, ⟨es, cl, hb0, r⟩, hf⟩ := h
  exact ⟨D, ⟨es, cl, hb.trans hb0, r⟩, hf⟩
theorem MapZ.turn (h : MapZ P kt q w b s f) (ht : Turn S w w1) (hn : ¬ S b) : MapZ P kt q w1 b s f := h.keep (ht.block b h.lt hn)
theorem MapZ.ne_cells (h : MapZ P kt q w b s f) {g t : Nat} {cells : Array Value} {fr : Nat × Nat} (hb : w.heap[g]? = some (.cells cells t fr)) : b ≠ g := h.mapI.ne_cells hb
theorem MapZ.same {f' : Int → Option Value} (h : MapZ P kt q w b s f) (hf : ∀ i, (Lit.int q i).wf = true → f' i = f i) : MapZ P kt q w b s f' := by
  obtain ⟨D, hD, hr, hs⟩ := h
  exact ⟨D, hD, fun i hi => by rw [hf i hi]; exact hr i hi, hs⟩
theorem RangeZ.map (h : RangeZ P kt q w b r s f left cnt) : MapZ P kt q w b s f := by
  obtain ⟨D, l, hr, hf, hs, _⟩ := h
  exact ⟨D, hr.owns, hf, hs⟩
theorem RangeZ.left_eq (h : RangeZ P kt q w b r s f left cnt) : w.rangeLeft b r = cnt := by
  obtain ⟨D, l, hr, _⟩ := h
  exact hr.left_eq
theorem RangeZ.ne (h : RangeZ P kt q w b r s f left cnt) : r ≠ b := by
  obtain ⟨D, l, hr, _⟩ := h
  exact hr.ne
theorem RangeZ.lt (h : RangeZ P kt q w b r s f left cnt) : r < w.heap.size := by
  obtain ⟨D, l, hr, _⟩ := h
  exact hr.lt
theorem RangeZ.iter (h : RangeZ P kt q w b r s f left cnt) : ∃ m a x c, w.heap[r]? = some (.mapIter m a x c) := by
  obtain ⟨D, l, ⟨es, cl, since, seen, c0, _, _, _, _, hr, _⟩, _⟩ := h
  exact ⟨_, _, _, _, hr⟩
theorem RangeZ.ne_cells (h : RangeZ P kt q w b r s f left cnt) {g t : Nat} {cells : Array Value} {fr : Nat × Nat} (hb : w.heap[g]? = some (.cells cells t fr)) : r ≠ g := by
  rintro rfl
  obtain ⟨m, a, x, c, hr⟩ := h.iter
  rw [hb] at hr
  cases hr
theorem RangeZ.keep (h : RangeZ P kt q w b r s f left cnt) (hb : w1.heap[b]? = w.heap[b]?) (hr : w1.heap[r]? = w.heap[r]?) : RangeZ P kt q w1 b r s f left cnt := by
  obtain ⟨D, l, ⟨es, cl, since, seen, c0, hb0, F, hs, hD, hr0, rest⟩, hf⟩ := h
  exact ⟨D, l, ⟨es, cl, since, seen, c0, hb.trans hb0, F, hs, hD, hr.trans hr0, rest⟩, hf⟩
theorem RangeZ.turn (h : RangeZ P kt q w b r s f left cnt) (ht : Turn S w w1) (hb : ¬ S b) (hr : ¬ S r) : RangeZ P kt q w1 b r s f left cnt := h.keep (ht.block b h.map.lt hb) (ht.block r h.lt hr)
variable {t e : TypeId} (hu : P.underlying kt = some (.int q)) (ht : P.underlying t = some (.map kt e))
include ht
theorem MapZ.len (h : MapZ P kt q w b s f) (ty : TypeId) : (Builtin.len_ #[t] ty #[.map (some b)]).run P w = .ok (.int .i64 s) w := by
  obtain ⟨D, hD, _, rfl⟩ := h
  exact hD.len ht ty
include hu
theorem MapZ.store (h : MapZ P kt q w b s f) (hn : s < maxLen) {i : Int} (hi : (Lit.int q i).wf = true) (v : Value) :
    ∃ w', (Instr.mapUpdate t (.map (some b)) (.int q i) v).run P w = .ok () w' ∧ MapZ P kt q w' b (if (f i).isSome then s else s + 1) (setM f i (some v)) ∧ w.mapTurned w' b := by
  obtain ⟨D, hD, hf, rfl⟩ := h
  obtain ⟨w', hrun, hD', hT⟩ := hD.store (int_keyed hu) ht hn (keyOf_int_mk hu hi) (d := .held v) (ps := []) (val := v) rfl
  have hk : WideAt.IsKeyLit (.int q i) := (int_keyed hu).key (keyOf_int_mk hu hi)
  have hsz := size_put (hD.tidy (int_keyed hu)) (k := .int q i) (.held v)
  rw [(hf i hi).2] at hsz
  refine ⟨w', hrun, ⟨_, by rw [← hsz]; exact ownsMap_size hD', fun j hj => ?_, hsz⟩, hT⟩
  by_cases e : j = i
  · subst e
    refine ⟨fun z => ?_, ?_⟩
    · rw [atKey_put_same hD.isMap hk, setM_same]; rfl
    · rw [has_put_same hD.isMap hk, setM_same]; rfl
  · have hne : (Lit.int q j) ≠ (Lit.int q i) := fun h => e (by injection h)
    refine ⟨fun z => ?_, ?_⟩
    · rw [atKey_put_other hne, setM_other f _ e]; exact (hf j hj).1 z
    · rw [has_put_other hne, setM_other f _ e]; exact (hf j hj).2
theorem MapZ.drop (h : MapZ P kt q w b s f) {i : Int} (hi : (Lit.int q i).wf = true) (ty : TypeId) :
    ∃ w' s', (Builtin.delete_ #[t, kt] ty #[.map (some b), .int q i]).run P w = .ok (.tuple #[]) w' ∧ MapZ P kt q w' b s' (setM f i none) ∧ s' + (if (f i).isSome then 1 else 0) = s ∧ w.mapTurned w' b := by
  obtain ⟨D, hD, hf, rfl⟩ := h
  obtain ⟨w', hrun, hD', hT⟩ := hD.drop (int_keyed hu) ht (keyOf_int_mk hu hi) ty
  have hsz := size_del (k := .int q i) (hD.tidy (int_keyed hu))
  rw [(hf i hi).2] at hsz
  refine ⟨w', _, hrun, ⟨_, ownsMap_size hD', fun j hj => ?_, rfl⟩, hsz, hT⟩
  by_cases e : j = i
  · subst e
    refine ⟨fun z => ?_, ?_⟩
    · rw [atKey_del_same, setM_same]; rfl
    · rw [has_del_same, setM_same]; rfl
  · have hne : (Lit.int q j) ≠ (Lit.int q i) := fun h => e (by injection h)
    refine ⟨fun z => ?_, ?_⟩
    · rw [atKey_del_other hne, setM_other f _ e]; exact (hf j hj).1 z
    · rw [has_del_other hne, setM_other f _ e]; exact (hf j hj).2
theorem MapZ.range (h : MapZ P kt q w b s f) :
    ∃ w', (Instr.range t (.map (some b))).run P w = .ok (.pointer (some ⟨w.heap.size, 0, none⟩)) w' ∧ RangeZ P kt q w' b w.heap.size s f (fun i => (f i).isSome) s ∧ Turn (fun _ => False) w w' ∧ w'.heap.size = w.heap.size + 1 := by
  obtain ⟨D, hD, hf, rfl⟩ := h
  obtain ⟨w', hrun, hr, hg, hs⟩ := hD.range (int_keyed hu) ht
  exact ⟨w', hrun, ⟨D, _, hr, hf, rfl, fun i hi => (hf i hi).2⟩, (Turn.refl _ w).grown hg (fun k hk => by cases hk), hs⟩
omit ht in
theorem RangeZ.next (h : RangeZ P kt q w b r s f left cnt) (ty : TypeId) :
    (cnt = 0 ∧ (∀ i : Int, (Lit.int q i).wf = true → left i = false) ∧ (Instr.next (.pointer (some ⟨r, 0, none⟩)) false ty).run P w = .ok (.tuple #[.bool false]) w) ∨
    ∃ i v w' cnt', (Lit.int q i).wf = true ∧ left i = true ∧ f i = some v ∧ (Instr.next (.pointer (some ⟨r, 0, none⟩)) false ty).run P w = .ok (.tuple #[.bool true, .int q i, v]) w' ∧
      RangeZ P kt q w' b r s f (fun j => left j && !(j == i)) cnt' ∧ cnt' < cnt ∧ Turn (fun k => k = r) w w' ∧ w'.heap.size = w.heap.size ∧ (Instr.entry (.pointer (some ⟨r, 0, none⟩))).run P w' = .ok (.tuple #[.int q i, v]) w' := by
  obtain ⟨D, l, hr, hf, hs, hl⟩ := h
  rcases hr.next (int_keyed hu) ty with ⟨h0, hl0, hrun⟩ | ⟨key, v, kl, y, w', cnt', hkey, hlk, hv, hat, hrun, hr', hlt, hg, hsz, hen⟩
  · exact .inl ⟨h0, fun i hi => by rw [← hl i hi]; exact hl0 _, hrun⟩
  · obtain ⟨i, rfl, rfl, hi⟩ := Maps.keyOf_int_inv hu hkey
    have hy : y = (.held v, []) := (Option.some.inj hv).symm
    have hfi : f i = some v := by
      have h1 := hat (.held (.bool true))
      have h2 := hat (.held (.bool false))
      rw [(hf i hi).1, hy] at h1 h2
      injection h1 with h1
      injection h2 with h2
      cases hfi : f i with
      | none =>
        rw [hfi] at h1 h2
        have := h1.trans h2.symm
        cases this
      | some u =>
        rw [hfi] at h1
        exact congrArg some h1
    refine .inr ⟨i, v, w', cnt', hi, by rw [← hl i hi]; exact hlk, hfi, hrun, ⟨D, _, hr', hf, hs, fun j hj => ?_⟩, hlt, (Turn.refl _ w).grown hg (fun k hk => .inl (Option.some.inj hk).symm), hsz, hen⟩
    show (l (.int q j) && !(Lit.int q j).sameKey (.int q i)) = _
    rw [hl j hj]
    congr 2
    by_cases e : j = i
    · subst e
      rw [WideAt.sameKey_self ((int_keyed hu).key (keyOf_int_mk hu hi))]
      simp
    · rw [Maps.sameKey_ne (fun h => e (by injection h))]
      simp [e]
end
section
variable {P : Program} {kt : TypeId} {q : IntKind} {w : World} {b s r cnt : Nat} {f : Int → Option Value} {left : Int → Bool} {ops : Array Oper} {rest : List Oper} {o : Oper} {a : Act} {Q : Exit → Act → World → Prop} {t e : TypeId}
theorem wpList_range_z (hu : P.underlying kt = some (.int q)) (ht : P.underlying t = some (.map kt e)) (hg : o.guard = none) (m : Operand) (hop : o.op = Op.range t m) (hm : a.eval m = .map (some b)) (h : MapZ P kt q w b s f)
    (hK : ∀ w', RangeZ P kt q w' b w.heap.size s f (fun i => (f i).isSome) s → Turn (fun _ => False) w w' → w'.heap.size = w.heap.size + 1 → wpList P ops Q rest (a.put o.dst (.pointer (some ⟨w.heap.size, 0, none⟩))) w') :
    wpList P ops Q (o :: rest) a w := by
  refine wpList_plain hg fun K' hK' => ?_
  obtain ⟨w', hrun, r1, r2, r3⟩ := h.range hu ht
  unfold Oper.wp
  simp [execOp, hop, hm, hrun, Result.andThen]
  exact hK' _ _ (hK w' r1 r2 r3)
theorem wpList_next_z (hu : P.underlying kt = some (.int q)) (hg : o.guard = none) (it : Operand) (hop : o.op = Op.next it false) (hit : a.eval it = .pointer (some ⟨r, 0, none⟩)) (h : RangeZ P kt q w b r s f left cnt)
    (hDone : cnt = 0 → (∀ i : Int, (Lit.int q i).wf = true → left i = false) → wpList P ops Q rest (a.put o.dst (.tuple #[.bool false])) w)
    (hMore : ∀ (i : Int) (v : Value) (w' : World) (cnt' : Nat), (Lit.int q i).wf = true → left i = true → f i = some v → RangeZ P kt q w' b r s f (fun j => left j && !(j == i)) cnt' → cnt' < cnt → Turn (fun k => k = r) w w' → w'.heap.size = w.heap.size →
      (Instr.entry (.pointer (some ⟨r, 0, none⟩))).run P w' = .ok (.tuple #[.int q i, v]) w' → wpList P ops Q rest (a.put o.dst (.tuple #[.bool true, .int q i, v])) w') :
    wpList P ops Q (o :: rest) a w := by
  refine wpList_plain hg fun K' hK' => ?_
  unfold Oper.wp
  rcases h.next hu o.type with ⟨h0, hl, hrun⟩ | ⟨i, v, w', cnt', hi, hli, hv, hrun, hrg, hlt, hgr, hsz, hen⟩
  · simp [execOp, hop, hit, hrun, Result.andThen]
    exact hK' _ _ (hDone h0 hl)
  · simp [execOp, hop, hit, hrun, Result.andThen]
    exact hK' _ _ (hMore i v w' cnt' hi hli hv hrg hlt hgr hsz hen)
end
end Go.Proofs.Ytaninnkhdhpcgaa.P
