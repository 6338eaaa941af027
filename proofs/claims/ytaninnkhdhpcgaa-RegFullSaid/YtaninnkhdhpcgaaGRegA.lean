/- Several texts of this session's own as one. -/
import Derived.Test.YtaninnkhdhpcgaaGObj
import Derived.Maps.RangeWalk
import Derived.Test.YtaninnkhdhpcgaaGResults
import Derived.Test.YtaninnkhdhpcgaaGNum
import Derived.Test.YtaninnkhdhpcgaaGMeas
import Derived.Test.YtaninnkhdhpcgaaPregsingle
namespace Go.Proofs.Ytaninnkhdhpcgaa.P
open Go.RowKit Go.Maps Go.ChangeMaps Go.Proofs.YtaninnkhdhpcgaaW.PrintWords Go.Proofs.YtaninnkhdhpcgaaW.PrintLast
set_option linter.unusedVariables false

def ReadsI (q : IntKind) (D : DataW Value) (f : Int → Option Value) : Prop := ∀ i : Int, (Lit.int q i).wf = true → (∀ z, D.atKey (.int q i) (.held z) = .held ((f i).getD z)) ∧ Maps.has D (.int q i) = (f i).isSome
/-- Block b is a map of s entries: f i is what stands at i. -/
def MapZ (P : Program) (kt : TypeId) (q : IntKind) (w : World) (b s : Nat) (f : Int → Option Value) : Prop :=
  ∃ D, w.ownsMap P kt Rv b s D ∧ ReadsI q D f ∧ Maps.size D = s
/-- The same map, ranged over by the iterator in block r: the entries of left are still to come, cnt of them. -/
def RangeZ (P : Program) (kt : TypeId) (q : IntKind) (w : World) (b r s : Nat) (f : Int → Option Value) (left : Int → Bool) (cnt : Nat) : Prop :=
  ∃ D l, w.ranges P kt Rv b r s D l cnt ∧ ReadsI q D f ∧ Maps.size D = s ∧ ∀ i : Int, (Lit.int q i).wf = true → l (.int q i) = left i
theorem setM_none (f : Int → Option Value) (i : Int) (h : f i = none) : setM f i none = f := by
  funext j
  unfold setM
  by_cases e : j = i
  · rw [if_pos e, e, h]
  · rw [if_neg e]
section
variable {P : Program} {kt : TypeId} {q : IntKind} {w w1 : World} {b s r cnt : Nat} {f : Int → Option Value} {left : Int → Bool} {S : Nat → Prop}
theorem ownsMap_size {R : Value → Option (DataW Value × List MemPlace)} {n : Nat} {D : DataW Value} (h : w.ownsMap P kt R b n D) : w.ownsMap P kt R b (Maps.size D) D := by
  obtain ⟨es, cl, hb, F, hs, rfl⟩ := h
  refine ⟨es, cl, hb, F, ?_, rfl⟩
  simp [Maps.size, length_sorted]
theorem MapZ.mapI (h : MapZ P kt q w b s f) : MapI P kt q w b s f := by
  obtain ⟨D, hD, hf, _⟩ := h
  exact ⟨D, hD, hf⟩
theorem MapZ.made (w : World) (P : Program) (kt : TypeId) (q : IntKind) : MapZ P kt q (w.alloc (.map #[] 0)) w.heap.size 0 (fun _ => none) :=
  ⟨_, World.ownsMap_made w P kt Rv, fun i _ => ⟨fun z => rfl, rfl⟩, rfl⟩
theorem MapZ.block (h : MapZ P kt q w b s f) : ∃ es cl, w.heap[b]? = some (.map es cl) := h.mapI.block
theorem MapZ.lt (h : MapZ P kt q w b s f) : b < w.heap.size := h.mapI.lt
theorem MapZ.keep (h : MapZ P kt q w b s f) (hb : w1.heap[b]? = w.heap[b]?) : MapZ P kt q w1 b s f := by
  obtain ⟨D, ⟨es, cl, hb0, r⟩, hf⟩ := h
  exact ⟨D, ⟨es, cl, hb.trans hb0, r⟩, hf⟩
theorem MapZ.turn (h : MapZ P kt q w b s f) (ht : Turn S w w1) (hn : ¬ S b) : MapZ P kt q w1 b s f := h.keep (ht.block b h.lt hn)
theorem MapZ.ne_cells (h : MapZ P kt q w b s f) {g t : Nat} {cells : Array Value} {fr : Nat × Nat} (hb : w.heap[g]? = some (.cells cells t fr)) : b ≠ g := h.mapI.ne_cells hb
theorem MapZ.same {f' : Int → Option Value} (h : MapZ P kt q w b s f) (hf : ∀ i, (Lit.int q i).wf = true → f' i = f i) : MapZ P kt q w b s f' := by
  obtain ⟨D, hD, hr, hs⟩ := h
  exact ⟨D, hD, fun i hi => by rw [hf i hi]; exact hr i hi, hs⟩
theorem RangeZ.map (h : RangeZ P kt q w b r s f left cnt) : MapZ P kt q w b s f := by
  obtain ⟨D, l, hr, hf, hs, _⟩ := h
  exact ⟨D, hr.owns, hf, hs⟩
theorem RangeZ.left_eq (h : RangeZ P kt q w b r s f left cnt) : w.rangeLeft b r = cnt := by
  obtain ⟨D, l, hr, _⟩ := h
  exact hr.left_eq
theorem RangeZ.ne (h : RangeZ P kt q w b r s f left cnt) : r ≠ b := by
  obtain ⟨D, l, hr, _⟩ := h
  exact hr.ne
theorem RangeZ.lt (h : RangeZ P kt q w b r s f left cnt) : r < w.heap.size := by
  obtain ⟨D, l, hr, _⟩ := h
  exact hr.lt
theorem RangeZ.iter (h : RangeZ P kt q w b r s f left cnt) : ∃ m a x c, w.heap[r]? = some (.mapIter m a x c) := by
  obtain ⟨D, l, ⟨es, cl, since, seen, c0, _, _, _, _, hr, _⟩, _⟩ := h
  exact ⟨_, _, _, _, hr⟩
theorem RangeZ.ne_cells (h : RangeZ P kt q w b r s f left cnt) {g t : Nat} {cells : Array Value} {fr : Nat × Nat} (hb : w.heap[g]? = some (.cells cells t fr)) : r ≠ g := by
  rintro rfl
  obtain ⟨m, a, x, c, hr⟩ := h.iter
  rw [hb] at hr
  cases hr
theorem RangeZ.keep (h : RangeZ P kt q w b r s f left cnt) (hb : w1.heap[b]? = w.heap[b]?) (hr : w1.heap[r]? = w.heap[r]?) : RangeZ P kt q w1 b r s f left cnt := by
  obtain ⟨D, l, ⟨es, cl, since, seen, c0, hb0, F, hs, hD, hr0, rest⟩, hf⟩ := h
  exact ⟨D, l, ⟨es, cl, since, seen, c0, hb.trans hb0, F, hs, hD, hr.trans hr0, rest⟩, hf⟩
theorem RangeZ.turn (h : RangeZ P kt q w b r s f left cnt) (ht : Turn S w w1) (hb : ¬ S b) (hr : ¬ S r) : RangeZ P kt q w1 b r s f left cnt := h.keep (ht.block b h.map.lt hb) (ht.block r h.lt hr)
variable {t e : TypeId} (hu : P.underlying kt = some (.int q)) (ht : P.underlying t = some (.map kt e))
include ht
theorem MapZ.len (h : MapZ P kt q w b s f) (ty : TypeId) : (Builtin.len_ #[t] ty #[.map (some b)]).run P w = .ok (.int .i64 s) w := by
  obtain ⟨D, hD, _, rfl⟩ := h
  exact hD.len ht ty
include hu
theorem MapZ.store (h : MapZ P kt q w b s f) (hn : s < maxLen) {i : Int} (hi : (Lit.int q i).wf = true) (v : Value) :
    ∃ w', (Instr.mapUpdate t (.map (some b)) (.int q i) v).run P w = .ok () w' ∧ MapZ P kt q w' b (if (f i).isSome then s else s + 1) (setM f i (some v)) ∧ w.mapTurned w' b := by
  obtain ⟨D, hD, hf, rfl⟩ := h
  obtain ⟨w', hrun, hD', hT⟩ := hD.store (int_keyed hu) ht hn (keyOf_int_mk hu hi) (d := .held v) (ps := []) (val := v) rfl
  have hk : WideAt.IsKeyLit (.int q i) := (int_keyed hu).key (keyOf_int_mk hu hi)
  have hsz := size_put (hD.tidy (int_keyed hu)) (k := .int q i) (.held v)
  rw [(hf i hi).2] at hsz
  refine ⟨w', hrun, ⟨_, by rw [← hsz]; exact ownsMap_size hD', fun j hj => ?_, hsz⟩, hT⟩
  by_cases e : j = i
  · subst e
    refine ⟨fun z => ?_, ?_⟩
    · rw [atKey_put_same hD.isMap hk, setM_same]; rfl
    · rw [has_put_same hD.isMap hk, setM_same]; rfl
  · have hne : (Lit.int q j) ≠ (Lit.int q i) := fun h => e (by injection h)
    refine ⟨fun z => ?_, ?_⟩
    · rw [atKey_put_other hne, setM_other f _ e]; exact (hf j hj).1 z
    · rw [has_put_other hne, setM_other f _ e]; exact (hf j hj).2
theorem MapZ.drop (h : MapZ P kt q w b s f) {i : Int} (hi : (Lit.int q i).wf = true) (ty : TypeId) :
    ∃ w' s', (Builtin.delete_ #[t, kt] ty #[.map (some b), .int q i]).run P w = .ok (.tuple #[]) w' ∧ MapZ P kt q w' b s' (setM f i none) ∧ s' + (if (f i).isSome then 1 else 0) = s ∧ w.mapTurned w' b := by
  obtain ⟨D, hD, hf, rfl⟩ := h
  obtain ⟨w', hrun, hD', hT⟩ := hD.drop (int_keyed hu) ht (keyOf_int_mk hu hi) ty
  have hsz := size_del (k := .int q i) (hD.tidy (int_keyed hu))
  rw [(hf i hi).2] at hsz
  refine ⟨w', _, hrun, ⟨_, ownsMap_size hD', fun j hj => ?_, rfl⟩, hsz, hT⟩
  by_cases e : j = i
  · subst e
    refine ⟨fun z => ?_, ?_⟩
    · rw [atKey_del_same, setM_same]; rfl
    · rw [has_del_same, setM_same]; rfl
  · have hne : (Lit.int q j) ≠ (Lit.int q i) := fun h => e (by injection h)
    refine ⟨fun z => ?_, ?_⟩
    · rw [atKey_del_other hne, setM_other f _ e]; exact (hf j hj).1 z
    · rw [has_del_other hne, setM_other f _ e]; exact (hf j hj).2
theorem MapZ.range (h : MapZ P kt q w b s f) :
    ∃ w', (Instr.range t (.map (some b))).run P w = .ok (.pointer (some ⟨w.heap.size, 0, none⟩)) w' ∧ RangeZ P kt q w' b w.heap.size s f (fun i => (f i).isSome) s ∧ Turn (fun _ => False) w w' ∧ w'.heap.size = w.heap.size + 1 := by
  obtain ⟨D, hD, hf, rfl⟩ := h
  obtain ⟨w', hrun, hr, hg, hs⟩ := hD.range (int_keyed hu) ht
  exact ⟨w', hrun, ⟨D, _, hr, hf, rfl, fun i hi => (hf i hi).2⟩, (Turn.refl _ w).grown hg (fun k hk => by cases hk), hs⟩
omit ht in
theorem RangeZ.next (h : RangeZ P kt q w b r s f left cnt) (ty : TypeId) :
    (cnt = 0 ∧ (∀ i : Int, (Lit.int q i).wf = true → left i = false) ∧ (Instr.next (.pointer (some ⟨r, 0, none⟩)) false ty).run P w = .ok (.tuple #[.bool false]) w) ∨
    ∃ i v w' cnt', (Lit.int q i).wf = true ∧ left i = true ∧ f i = some v ∧ (Instr.next (.pointer (some ⟨r, 0, none⟩)) false ty).run P w = .ok (.tuple #[.bool true, .int q i, v]) w' ∧
      RangeZ P kt q w' b r s f (fun j => left j && !(j == i)) cnt' ∧ cnt' < cnt ∧ Turn (fun k => k = r) w w' ∧ w'.heap.size = w.heap.size ∧ (Instr.entry (.pointer (some ⟨r, 0, none⟩))).run P w' = .ok (.tuple #[.int q i, v]) w' := by
  obtain ⟨D, l, hr, hf, hs, hl⟩ := h
  rcases hr.next (int_keyed hu) ty with ⟨h0, hl0, hrun⟩ | ⟨key, v, kl, y, w', cnt', hkey, hlk, hv, hat, hrun, hr', hlt, hg, hsz, hen⟩
  · exact .inl ⟨h0, fun i hi => by rw [← hl i hi]; exact hl0 _, hrun⟩
  · obtain ⟨i, rfl, rfl, hi⟩ := Maps.keyOf_int_inv hu hkey
    have hy : y = (.held v, []) := (Option.some.inj hv).symm
    have hfi : f i = some v := by
      have h1 := hat (.held (.bool true))
      have h2 := hat (.held (.bool false))
      rw [(hf i hi).1, hy] at h1 h2
      injection h1 with h1
      injection h2 with h2
      cases hfi : f i with
      | none =>
        rw [hfi] at h1 h2
        have := h1.trans h2.symm
        cases this
      | some u =>
        rw [hfi] at h1
        exact congrArg some h1
    refine .inr ⟨i, v, w', cnt', hi, by rw [← hl i hi]; exact hlk, hfi, hrun, ⟨D, _, hr', hf, hs, fun j hj => ?_⟩, hlt, (Turn.refl _ w).grown hg (fun k hk => .inl (Option.some.inj hk).symm), hsz, hen⟩
    show (l (.int q j) && !(Lit.int q j).sameKey (.int q i)) = _
    rw [hl j hj]
    congr 2
    by_cases e : j = i
    · subst e
      rw [WideAt.sameKey_self ((int_keyed hu).key (keyOf_int_mk hu hi))]
      simp
    · rw [Maps.sameKey_ne (fun h => e (by injection h))]
      simp [e]
end
section
variable {P : Program} {kt : TypeId} {q : IntKind} {w : World} {b s r cnt : Nat} {f : Int → Option Value} {left : Int → Bool} {ops : Array Oper} {rest : List Oper} {o : Oper} {a : Act} {Q : Exit → Act → World → Prop} {t e : TypeId}
theorem wpList_range_z (hu : P.underlying kt = some (.int q)) (ht : P.underlying t = some (.map kt e)) (hg : o.guard = none) (m : Operand) (hop : o.op = Op.range t m) (hm : a.eval m = .map (some b)) (h : MapZ P kt q w b s f)
    (hK : ∀ w', RangeZ P kt q w' b w.heap.size s f (fun i => (f i).isSome) s → Turn (fun _ => False) w w' → w'.heap.size = w.heap.size + 1 → wpList P ops Q rest (a.put o.dst (.pointer (some ⟨w.heap.size, 0, none⟩))) w') :
    wpList P ops Q (o :: rest) a w := by
  refine wpList_plain hg fun K' hK' => ?_
  obtain ⟨w', hrun, r1, r2, r3⟩ := h.range hu ht
  unfold Oper.wp
  simp [execOp, hop, hm, hrun, Result.andThen]
  exact hK' _ _ (hK w' r1 r2 r3)
theorem wpList_next_z (hu : P.underlying kt = some (.int q)) (hg : o.guard = none) (it : Operand) (hop : o.op = Op.next it false) (hit : a.eval it = .pointer (some ⟨r, 0, none⟩)) (h : RangeZ P kt q w b r s f left cnt)
    (hDone : cnt = 0 → (∀ i : Int, (Lit.int q i).wf = true → left i = false) → wpList P ops Q rest (a.put o.dst (.tuple #[.bool false])) w)
    (hMore : ∀ (i : Int) (v : Value) (w' : World) (cnt' : Nat), (Lit.int q i).wf = true → left i = true → f i = some v → RangeZ P kt q w' b r s f (fun j => left j && !(j == i)) cnt' → cnt' < cnt → Turn (fun k => k = r) w w' → w'.heap.size = w.heap.size →
      (Instr.entry (.pointer (some ⟨r, 0, none⟩))).run P w' = .ok (.tuple #[.int q i, v]) w' → wpList P ops Q rest (a.put o.dst (.tuple #[.bool true, .int q i, v])) w') :
    wpList P ops Q (o :: rest) a w := by
  refine wpList_plain hg fun K' hK' => ?_
  unfold Oper.wp
  rcases h.next hu o.type with ⟨h0, hl, hrun⟩ | ⟨i, v, w', cnt', hi, hli, hv, hrun, hrg, hlt, hgr, hsz, hen⟩
  · simp [execOp, hop, hit, hrun, Result.andThen]
    exact hK' _ _ (hDone h0 hl)
  · simp [execOp, hop, hit, hrun, Result.andThen]
    exact hK' _ _ (hMore i v w' cnt' hi hli hv hrg hlt hgr hsz hen)
end
end Go.Proofs.Ytaninnkhdhpcgaa.P

namespace Go.Proofs.Ytaninnkhdhpcgaa.P
open Go.RowKit Go.Maps Go.Proofs.YtaninnkhdhpcgaaW.PrintWords Go.Proofs.YtaninnkhdhpcgaaW.PrintLast Go.Proofs.YtaninnkhdhpcgaaW.PrintMore
set_option linter.unusedVariables false
set_option linter.unusedSimpArgs false

abbrev Flt := S24
structure Ent where
  owner : Int
  flt : Flt
  since : Int
def kEt : Kd Ent := Kd.iso (Kd.pair (Kd.int .i64) (Kd.pair k24 (Kd.int .i64))) (fun x : Ent => (x.owner, x.flt, x.since))
def etC (x : Ent) : List Value := [.int .i64 x.owner, .int .u32 x.flt.f0, .int .u32 x.flt.f1, .bool x.flt.f2, .int .i64 x.since]
theorem kEt_open {w : World} {x : Ent} {cs : List Value} (h : kEt.K w x cs) : cs = etC x := by
  obtain ⟨_, _, rfl, rfl, _, _, rfl, s1, rfl⟩ := h
  obtain rfl := k24_open s1
  exact rfl
theorem kEt_mk (w : World) (x : Ent) : kEt.K w x (etC x) := ⟨[.int .i64 x.owner], [.int .u32 x.flt.f0, .int .u32 x.flt.f1, .bool x.flt.f2, .int .i64 x.since], rfl, rfl, [.int .u32 x.flt.f0, .int .u32 x.flt.f1, .bool x.flt.f2], [.int .i64 x.since], rfl, k24_mk w x.flt, rfl⟩
theorem kEt_mkM (w : World) (base : Nat) (ok : Nat → Prop) (x : Ent) : kEt.M w base ok x (etC x) := ⟨[.int .i64 x.owner], [.int .u32 x.flt.f0, .int .u32 x.flt.f1, .bool x.flt.f2, .int .i64 x.since], rfl, rfl, [.int .u32 x.flt.f0, .int .u32 x.flt.f1, .bool x.flt.f2], [.int .i64 x.since], rfl, k24_mkM w base ok x.flt, rfl⟩
theorem kEtE : kEt.E = [] := rfl
theorem at_Et {w : World} {A : Option Addr} {n : Nat} {xs : List Ent} (h : Kd.C kEt w A n xs) (i : Nat) {x : Ent} (hx : xs[i]? = some x) : ∃ ad, A = some ad ∧ w.cell? (ad.add (i * 5)) = some (.int .i64 x.owner) ∧ w.cell? ⟨(ad.add (i * 5)).block, (ad.add (i * 5)).off + 1, none⟩ = some (.int .u32 x.flt.f0) ∧ w.cell? ⟨(ad.add (i * 5)).block, (ad.add (i * 5)).off + 2, none⟩ = some (.int .u32 x.flt.f1) ∧ w.cell? ⟨(ad.add (i * 5)).block, (ad.add (i * 5)).off + 3, none⟩ = some (.bool x.flt.f2) ∧ w.cell? ⟨(ad.add (i * 5)).block, (ad.add (i * 5)).off + 4, none⟩ = some (.int .i64 x.since) := by
  have hn : i < n := by have h1 := (List.getElem?_eq_some_iff.1 hx).1; have h2 : xs.length = n := h.1; omega
  obtain ⟨ad, c, e, _, hK, hc0⟩ := Kd.C_get h x (i : Int) (by omega) (by omega)
  have hc : ∀ j u, c[j]? = some u → w.cell? (ad.add (i * 5 + j)) = some u := hc0
  have hg : xs.getD (i : Int).toNat x = x := by rw [Int.toNat_natCast, List.getD_eq_getElem?_getD, hx]; rfl
  rw [hg] at hK
  obtain rfl := kEt_open hK
  exact ⟨ad, e, hc 0 _ rfl, by rw [← add_field _ _ 1 (by omega)]; exact hc 1 _ rfl, by rw [← add_field _ _ 2 (by omega)]; exact hc 2 _ rfl, by rw [← add_field _ _ 3 (by omega)]; exact hc 3 _ rfl, by rw [← add_field _ _ 4 (by omega)]; exact hc 4 _ rfl⟩
def fltV (f : Flt) : Value := .agg #[.int .u32 f.f0, .int .u32 f.f1, .bool f.f2]
def isOne (f : Flt) : Bool := decide (f.f1 = 4294967295) && !f.f2
theorem single_f (f : Flt) : reg_single.f f.f0 f.f1 f.f2 = some (isOne f) := by
  unfold reg_single.f isOne
  by_cases h : f.f1 = 4294967295
  · rw [if_pos h, decide_eq_true h]
    rfl
  · rw [if_neg h, decide_eq_false h]
    rfl
def sl0 (v : Option Value) : Value := v.getD (.slice none 0 0)
def wordL (L : List Ent) (i : Int) : List Ent := L.filter (fun e => isOne e.flt && e.flt.f0 == i)
def restE (L : List Ent) : List Ent := L.filter (fun e => !isOne e.flt)
structure RGv where
  since : Int
  L : List Ent
structure RegI (w : World) (g mb s : Nat) (f : Int → Option Value) (v : Value) (L : List Ent) (sn mn : Int) (S : Nat → Prop) : Prop where
  hb : w.heap[g]? = some (.cells #[.map (some mb), v, .int .i64 sn, .int .i64 mn] 57 (0, 0))
  map : MapZ Try.prog 22 .u32 w mb s f
  hs : (s : Int) ≤ sn
  word : ∀ i, RowX kEt 59 w (sl0 (f i)) (wordL L i)
  rest : RowX kEt 59 w v (restE L)
  apart : ∀ i j k, (sl0 (f i)).ownBlock = some k → (sl0 (f j)).ownBlock = some k → i = j
  ra : ∀ i k, (sl0 (f i)).ownBlock = some k → v.ownBlock ≠ some k
  sg : S g
  sm : S mb
  sr : ∀ i k, (sl0 (f i)).ownBlock = some k → S k
  sv : ∀ k, v.ownBlock = some k → S k
  lt : ∀ k, S k → k < w.heap.size
/-- A register at g, of whose blocks are S. -/
def IsReg (g : Nat) (r : RGv) (w : World) (S : Nat → Prop) : Prop := ∃ mb s f v, RegI w g mb s f v r.L r.since r.L.length S
structure ROk (r : RGv) : Prop where
  s0 : 0 ≤ r.since
  s1 : r.since ≤ 1125899906842624
  len : r.L.length ≤ 51200
  order : r.L.Pairwise (fun a b => a.since < b.since)
  since : ∀ e ∈ r.L, 0 ≤ e.since ∧ e.since < r.since
def addR (r : RGv) (owner : Int) (f : Flt) : RGv := ⟨r.since + 1, r.L ++ [⟨owner, f, r.since⟩]⟩
theorem ROk.r0 : ROk ⟨0, []⟩ := ⟨by decide, by decide, by decide, List.Pairwise.nil, fun e he => (by cases he)⟩
theorem ROk.add {r : RGv} (h : ROk r) (owner : Int) (f : Flt) (hl : r.L.length < 51200) (hs : r.since < 1125899906842624) : ROk (addR r owner f) := by
  have := h.s0
  refine ⟨by show 0 ≤ r.since + 1; omega, by show r.since + 1 ≤ _; omega, ?_, ?_, fun e he => ?_⟩
  · show (r.L ++ [_]).length ≤ _
    rw [List.length_append, List.length_singleton]
    omega
  · refine List.pairwise_append.2 ⟨h.order, List.pairwise_singleton _ _, fun a ha b hb => ?_⟩
    rw [List.mem_singleton.1 hb]
    exact (h.since a ha).2
  · show 0 ≤ e.since ∧ e.since < r.since + 1
    rcases List.mem_append.1 he with he | he
    · have := h.since e he
      omega
    · rw [List.mem_singleton.1 he]
      show 0 ≤ r.since ∧ r.since < r.since + 1
      omega
section
variable {w w1 : World} {g mb s : Nat} {f : Int → Option Value} {v : Value} {r : RGv} {L : List Ent} {sn mn : Int} {S S2 : Nat → Prop}
theorem RegI.turn (h : RegI w g mb s f v L sn mn S) (ht : Turn S2 w w1) (hd : ∀ k, S k → ¬ S2 k) : RegI w1 g mb s f v L sn mn S :=
  ⟨ht.blk h.hb (hd g h.sg), h.map.turn ht (hd mb h.sm), h.hs, fun i => (h.word i).turn ht (fun k hk => hd k (h.sr i k hk)), h.rest.turn ht (fun k hk => hd k (h.sv k hk)), h.apart, h.ra, h.sg, h.sm, h.sr, h.sv, fun k hk => Nat.lt_of_lt_of_le (h.lt k hk) ht.size⟩
theorem IsReg.turn (h : IsReg g r w S) (ht : Turn S2 w w1) (hd : ∀ k, S k → ¬ S2 k) : IsReg g r w1 S := by
  obtain ⟨mb, s, f, v, h⟩ := h
  exact ⟨mb, s, f, v, h.turn ht hd⟩
theorem IsReg.lt (h : IsReg g r w S) : ∀ k, S k → k < w.heap.size := by
  obtain ⟨mb, s, f, v, h⟩ := h
  exact h.lt
theorem RegI.gm (h : RegI w g mb s f v L sn mn S) : mb ≠ g := h.map.ne_cells h.hb
theorem RegI.wg (h : RegI w g mb s f v L sn mn S) (i : Int) : (sl0 (f i)).ownBlock ≠ some g := (h.word i).ne_cells h.hb (by decide)
theorem RegI.wm (h : RegI w g mb s f v L sn mn S) (i : Int) : (sl0 (f i)).ownBlock ≠ some mb := by
  obtain ⟨es, cl, hm⟩ := h.map.block
  exact (h.word i).ne_map hm
theorem RegI.vg (h : RegI w g mb s f v L sn mn S) : v.ownBlock ≠ some g := h.rest.ne_cells h.hb (by decide)
theorem RegI.vm (h : RegI w g mb s f v L sn mn S) : v.ownBlock ≠ some mb := by
  obtain ⟨es, cl, hm⟩ := h.map.block
  exact h.rest.ne_map hm
theorem RegI.c0 (h : RegI w g mb s f v L sn mn S) : w.cell? ⟨g, 0, none⟩ = some (.map (some mb)) := (blk_cell h.hb 0).trans rfl
theorem RegI.c1 (h : RegI w g mb s f v L sn mn S) : w.cell? ⟨g, 1, none⟩ = some v := (blk_cell h.hb 1).trans rfl
theorem RegI.c2 (h : RegI w g mb s f v L sn mn S) : w.cell? ⟨g, 2, none⟩ = some (.int .i64 sn) := (blk_cell h.hb 2).trans rfl
theorem RegI.c3 (h : RegI w g mb s f v L sn mn S) : w.cell? ⟨g, 3, none⟩ = some (.int .i64 mn) := (blk_cell h.hb 3).trans rfl
end
set_option maxHeartbeats 4000000 in
set_option maxRecDepth 100000 in
theorem reg_Len {w : World} {g : Nat} {r : RGv} {S : Nat → Prop} (h : IsReg g r w S) :
    Calls Try.prog 11 #[.pointer (some ⟨g, 0, none⟩)] w fun e w' => e = .returned (.int .i64 r.L.length) ∧ w' = w := by
  obtain ⟨mb, s, f, v, h⟩ := h
  have c3 := h.c3
  clear h
  go_enter Try.func11, Try.ntmps11
  go_wp2
  go_ret
  exact ⟨rfl, rfl⟩
set_option maxHeartbeats 4000000 in
set_option maxRecDepth 100000 in
theorem reg_New (w : World) :
    Calls Try.prog 8 #[] w fun e w' => ∃ g S, e = .returned (.pointer (some ⟨g, 0, none⟩)) ∧ IsReg g ⟨0, []⟩ w' S ∧ (∀ k, S k → w.heap.size ≤ k) ∧ Below w.heap.size w w' := by
  have hu := Try.underlying57
  have hmm := @run_makeMap Try.prog
  go_enter Try.func8, Try.ntmps8
  go_wp2_with fail
  go_ret
  have hM := MapZ.made w Try.prog 22 .u32
  have hT : Turn (fun _ => False) (w.alloc (.map #[] 0)) ((w.alloc (.map #[] 0)).alloc (.cells #[.map (some w.heap.size), .slice none 0 0, .int .i64 0, .int .i64 0] 57)) := (Turn.refl _ _).alloc _
  refine ⟨w.heap.size + 1, fun k => k = w.heap.size ∨ k = w.heap.size + 1, rfl, ⟨w.heap.size, 0, fun _ => none, .slice none 0 0, ?_, hM.turn hT (fun x => x), Int.le_refl _, fun i => RowX.nil _ _ _, RowX.nil _ _ _, fun i j k hk => by simp [sl0, Value.ownBlock] at hk, fun i k hk => by simp [sl0, Value.ownBlock] at hk, .inr rfl, .inl rfl, fun i k hk => by simp [sl0, Value.ownBlock] at hk, fun k hk => by simp [Value.ownBlock] at hk, fun k hk => ?_⟩, fun k hk => ?_, ?_⟩
  · have := blk_new (w.alloc (.map #[] 0)) (.cells #[.map (some w.heap.size), .slice none 0 0, .int .i64 0, .int .i64 0] 57)
    rw [alloc_size] at this
    exact this
  · rw [alloc_size, alloc_size]
    omega
  · omega
  · exact (((Turn.refl (fun _ => False) w).alloc _).alloc _).to_below
theorem zero55 (w : World) : (zeroValue 55).run Try.prog w = .ok (.slice none 0 0) w := by kernel_rfl
theorem infoEn : (Try.prog.info? 59).map (fun i => (i.zero, i.size, i.bytes)) = some (some (.agg #[.int .i64 0, .int .u32 0, .int .u32 0, .bool false, .int .i64 0]), 5, 32) := by kernel_rfl
theorem wordL_add (L : List Ent) (x : Ent) (i : Int) : wordL (L ++ [x]) i = if isOne x.flt = true ∧ x.flt.f0 = i then wordL L i ++ [x] else wordL L i := by
  unfold wordL
  rw [List.filter_append]
  by_cases h : isOne x.flt = true ∧ x.flt.f0 = i
  · rw [if_pos h]
    simp [h.1, h.2]
  · rw [if_neg h]
    have : ([x] : List Ent).filter (fun e => isOne e.flt && e.flt.f0 == i) = [] := by
      rw [List.filter_eq_nil_iff]
      intro e he
      rw [List.mem_singleton.1 he]
      simpa using h
    rw [this, List.append_nil]
theorem restE_add (L : List Ent) (x : Ent) : restE (L ++ [x]) = if isOne x.flt = true then restE L else restE L ++ [x] := by
  unfold restE
  rw [List.filter_append]
  by_cases h : isOne x.flt = true
  · rw [if_pos h]
    simp [h]
  · rw [if_neg h]
    simp [h]
theorem word_len (L : List Ent) (i : Int) : (wordL L i).length ≤ L.length := List.length_filter_le _ _
theorem rest_len (L : List Ent) : (restE L).length ≤ L.length := List.length_filter_le _ _
section
variable {w w1 w2 : World} {g mb s : Nat} {f : Int → Option Value} {v : Value} {L : List Ent} {sn mn : Int} {S : Nat → Prop}
/-- Two numbers of the register are written. -/
theorem RegI.nums (h : RegI w g mb s f v L sn mn S) {sn' mn' : Int} (hs : sn ≤ sn') (hw : w1.heap[g]? = some (.cells #[.map (some mb), v, .int .i64 sn', .int .i64 mn'] 57 (0, 0))) (ht : Turn (fun k => k = g) w w1) : RegI w1 g mb s f v L sn' mn' S :=
  ⟨hw, h.map.turn ht h.gm, Int.le_trans h.hs hs, fun i => (h.word i).turn ht (fun k hk e => h.wg i (by rw [← e]; exact hk)), h.rest.turn ht (fun k hk e => h.vg (by rw [← e]; exact hk)), h.apart, h.ra, h.sg, h.sm, h.sr, h.sv, fun k hk => Nat.lt_of_lt_of_le (h.lt k hk) ht.size⟩
/-- A word's row has turned to v1 (in its own block, or a new one) and is stored. -/
theorem RegI.put (h : RegI w g mb s f v L sn mn S) {id : Int} {L' : List Ent} {v1 : Value} {s' : Nat} (hX : RowX kEt 59 w1 v1 (wordL L' id)) (ht : Turn (fun k => (sl0 (f id)).ownBlock = some k) w w1) (hat : v1.ownBlock = (sl0 (f id)).ownBlock ∨ ∃ b, v1.ownBlock = some b ∧ w.heap.size ≤ b)
    (hM : MapZ Try.prog 22 .u32 w2 mb s' (setM f id (some v1))) (hm : Turn (fun k => k = mb) w1 w2) (hs : (s' : Int) ≤ sn) (ho : ∀ i, i ≠ id → wordL L' i = wordL L i) (hr : restE L' = restE L) :
    RegI w2 g mb s' (setM f id (some v1)) v L' sn mn (fun k => k < w2.heap.size ∧ (S k ∨ w.heap.size ≤ k)) ∧ Turn S w w2 := by
  have hb1 := ht.blk h.hb (fun e => h.wg id e)
  have hown : ∀ k, v1.ownBlock = some k → S k ∨ w.heap.size ≤ k := fun k hk => by
    rcases hat with hat | ⟨b, hb, hl⟩
    · exact .inl (h.sr id k (by rw [← hat]; exact hk))
    · rw [hb] at hk
      cases hk
      exact .inr hl
  have hlt : ∀ k, S k → k < w2.heap.size := fun k hk => Nat.lt_of_lt_of_le (h.lt k hk) (Nat.le_trans ht.size hm.size)
  obtain ⟨es, cl, hmb⟩ := h.map.block
  have hmb1 := ht.blk hmb (fun e => h.wm id e)
  have hv1m : v1.ownBlock ≠ some mb := hX.ne_map hmb1
  have hf : ∀ i, i ≠ id → setM f id (some v1) i = f i := fun i hi => setM_other f _ hi
  have new : ∀ i k, i ≠ id → v1.ownBlock = some k → (sl0 (f i)).ownBlock = some k → False := fun i k hi hk hk2 => by
    rcases hat with hat | ⟨b, hb, hl⟩
    · exact hi (h.apart i id k hk2 (by rw [← hat]; exact hk))
    · rw [hb] at hk
      cases hk
      have := (h.word i).lt hk2
      omega
  refine ⟨⟨hm.blk hb1 (fun e => h.gm e.symm), hM, hs, fun i => ?_, ?_, fun i j k hi hj => ?_, fun i k hi => ?_, ⟨hlt g h.sg, .inl h.sg⟩, ⟨hlt mb h.sm, .inl h.sm⟩, fun i k hi => ?_, fun k hk => ⟨hlt k (h.sv k hk), .inl (h.sv k hk)⟩, fun k hk => hk.1⟩, (ht.mono (S2 := S) (fun k hk => h.sr id k hk)).trans hm (fun k hk => .inl (hk ▸ h.sm))⟩
  · by_cases hi : i = id
    · subst hi
      rw [setM_same]
      exact hX.turn hm (fun k hk e => hv1m (by rw [hk, e]))
    · rw [hf i hi, ho i hi]
      exact ((h.word i).turn ht (fun k hk hk2 => hi (h.apart i id k hk hk2))).turn hm (fun k hk e => h.wm i (by rw [hk, e]))
  · rw [hr]
    exact (h.rest.turn ht (fun k hk hk2 => h.ra id k hk2 hk)).turn hm (fun k hk e => h.vm (by rw [hk, e]))
  · by_cases hii : i = id
    · by_cases hjj : j = id
      · rw [hii, hjj]
      · rw [hii, setM_same] at hi
        rw [hf j hjj] at hj
        exact (new j k hjj hi hj).elim
    · rw [hf i hii] at hi
      by_cases hjj : j = id
      · rw [hjj, setM_same] at hj
        exact (new i k hii hj hi).elim
      · rw [hf j hjj] at hj
        exact h.apart i j k hi hj
  · by_cases hii : i = id
    · rw [hii, setM_same] at hi
      rcases hat with hat | ⟨b, hb, hl⟩
      · exact h.ra id k (by rw [← hat]; exact hi)
      · have hi' : v1.ownBlock = some k := hi
        rw [hb] at hi'
        cases hi'
        exact fun e => by have := h.rest.lt e; omega
    · rw [hf i hii] at hi
      exact h.ra i k hi
  · by_cases hii : i = id
    · rw [hii, setM_same] at hi
      have hi' : v1.ownBlock = some k := hi
      exact ⟨Nat.lt_of_lt_of_le (hX.lt hi') hm.size, hown k hi'⟩
    · rw [hf i hii] at hi
      exact ⟨hlt k (h.sr i k hi), .inl (h.sr i k hi)⟩
/-- The row of the rest has turned to v1, and is stored. -/
theorem RegI.putR (h : RegI w g mb s f v L sn mn S) {L' : List Ent} {v1 : Value} (hX : RowX kEt 59 w1 v1 (restE L')) (ht : Turn (fun k => v.ownBlock = some k) w w1) (hat : v1.ownBlock = v.ownBlock ∨ ∃ b, v1.ownBlock = some b ∧ w.heap.size ≤ b) (ho : ∀ i, wordL L' i = wordL L i) :
    RegI (w1.setCell ⟨g, 1, none⟩ v1) g mb s f v1 L' sn mn (fun k => k < w1.heap.size ∧ (S k ∨ w.heap.size ≤ k)) ∧ Turn S w (w1.setCell ⟨g, 1, none⟩ v1) := by
  have hb1 := ht.blk h.hb (fun e => h.vg e)
  have hg := blk_set hb1 1 v1
  simp only [List.setIfInBounds_toArray, List.set_cons_zero, List.set_cons_succ] at hg
  have hs : Turn (fun k => k = g) w1 (w1.setCell ⟨g, 1, none⟩ v1) := (Turn.refl (fun k => k = g) _).setCell (.inl rfl) _
  have hne : v1.ownBlock ≠ some g := hX.ne_cells hb1 (by decide)
  have hown : ∀ k, v1.ownBlock = some k → S k ∨ w.heap.size ≤ k := fun k hk => by
    rcases hat with hat | ⟨b, hb, hl⟩
    · exact .inl (h.sv k (by rw [← hat]; exact hk))
    · rw [hb] at hk
      cases hk
      exact .inr hl
  have hlt : ∀ k, S k → k < w1.heap.size := fun k hk => Nat.lt_of_lt_of_le (h.lt k hk) ht.size
  refine ⟨⟨hg, (h.map.turn ht (fun e => h.vm e)).turn hs h.gm, h.hs, fun i => ?_, hX.turn hs (fun k hk e => hne (by rw [hk, e])), h.apart, fun i k hi e => ?_, ⟨hlt g h.sg, .inl h.sg⟩, ⟨hlt mb h.sm, .inl h.sm⟩, fun i k hi => ⟨hlt k (h.sr i k hi), .inl (h.sr i k hi)⟩, fun k hk => ⟨hX.lt hk, hown k hk⟩, fun k hk => Nat.lt_of_lt_of_le hk.1 hs.size⟩, (ht.mono (S2 := S) (fun k hk => h.sv k hk)).trans hs (fun k hk => .inl (hk ▸ h.sg))⟩
  · rw [ho i]
    exact ((h.word i).turn ht (fun k hk hk2 => h.ra i k hk hk2)).turn hs (fun k hk e => h.wg i (by rw [hk, e]))
  · rcases hat with hat | ⟨b, hb, hl⟩
    · exact h.ra i k hi (by rw [← hat]; exact e)
    · rw [hb] at e
      cases e
      have := (h.word i).lt hi
      omega
end
end Go.Proofs.Ytaninnkhdhpcgaa.P

namespace Go.Proofs.Ytaninnkhdhpcgaa.P
open Go.RowKit Go.Maps Go.Proofs.YtaninnkhdhpcgaaW.PrintWords Go.Proofs.YtaninnkhdhpcgaaW.PrintLast Go.Proofs.YtaninnkhdhpcgaaW.PrintMore
set_option linter.unusedVariables false
set_option linter.unusedSimpArgs false

set_option maxHeartbeats 8000000 in
set_option maxRecDepth 100000 in
theorem reg_Add_nil (owner : Int) (f : Flt) (w : World) : Calls Try.prog 9 #[.pointer none, .int .i64 owner, fltV f] w fun e w' => e = .returned (.int .i64 1) ∧ Below w.heap.size w w' := by
  unfold fltV
  go_enter Try.func9, Try.ntmps9
  go_wp2_with fail
  go_ret
  exact ⟨rfl, below_alloc (Below.refl _ _) _⟩
set_option maxHeartbeats 8000000 in
set_option maxRecDepth 100000 in
theorem reg_Add_full {w : World} {g : Nat} {r : RGv} {S : Nat → Prop} (owner : Int) (f : Flt) (hl : r.L.length = 51200) (h : IsReg g r w S) : Calls Try.prog 9 #[.pointer (some ⟨g, 0, none⟩), .int .i64 owner, fltV f] w fun e w' => e = .returned (.int .i64 9) ∧ Below w.heap.size w w' := by
  obtain ⟨mb, s, F, v, h⟩ := h
  have c3 : w.cell? ⟨g, 3, none⟩ = some (.int .i64 51200) := by
    have := h.c3
    rw [hl] at this
    exact this
  have d1 : decide ((51200 : Int) ≥ 51200) = true := rfl
  unfold fltV
  clear h hl
  go_enter Try.func9, Try.ntmps9
  go_upto_region 1 with (fail)
  refine wp_world (fun W => W.cell? ⟨g, 3, none⟩ = some (.int .i64 51200) ∧ Below w.heap.size w W) ⟨((Turn.refl (fun _ => False) w).alloc _).cell c3 (fun x => x), below_alloc (Below.refl _ _) _⟩ ?_
  clear c3
  rintro W1 ⟨c3, hb⟩
  have HB := Aside0.mk hb
  clear hb
  go_wp2_with fail
  go_ret
  exact ⟨rfl, HB.out⟩
set_option maxHeartbeats 8000000 in
set_option maxRecDepth 100000 in
theorem reg_Add {w : World} {g : Nat} {r : RGv} {S : Nat → Prop} (owner : Int) (f : Flt) (hw : (Lit.int .u32 f.f0).wf = true) (ok : ROk r) (hl : r.L.length < 51200) (hs : r.since < 1125899906842624) (h : IsReg g r w S) :
    Calls Try.prog 9 #[.pointer (some ⟨g, 0, none⟩), .int .i64 owner, fltV f] w fun e w' => e = .returned (.int .i64 0) ∧ ∃ S', IsReg g (addR r owner f) w' S' ∧ Turn S w w' ∧ (∀ k, S' k → S k ∨ w.heap.size ≤ k) := by
  obtain ⟨mb, s, F, v, h⟩ := h
  have H := Aside0.mk h
  have OK := Aside0.mk ok
  have HWf := Aside0.mk hw
  have d1 : decide ((r.L.length : Int) ≥ 51200) = false := decide_eq_false (by omega)
  have HL := Aside0.mk hl
  have w1' : wrap64 (r.since + 1) = r.since + 1 := w64_small _ (by have := ok.s0; omega) (by have := ok.s1; omega)
  have w2' : wrap64 ((r.L.length : Int) + 1) = ((r.L.length + 1 : Nat) : Int) := wrap_succ _ (by omega)
  have HSs := Aside0.mk hs
  have c3 := h.c3
  unfold fltV
  clear h ok hl hs hw
  go_enter Try.func9, Try.ntmps9
  go_upto_region 1 with (fail)
  obtain ⟨B, hB⟩ : ∃ B, B = w.heap.size := ⟨_, rfl⟩
  rw [← hB]
  refine wp_world (fun W => RegI W g mb s F v r.L r.since r.L.length S ∧ W.heap[B]? = some (.cells #[.int .u32 f.f0, .int .u32 f.f1, .bool f.f2] 24 (0, 0)) ∧ Turn S w W ∧ Turn (fun _ => False) w W) ⟨H.out.turn ((Turn.refl (fun _ => False) w).alloc _) (fun _ _ x => x), by rw [hB]; exact blk_new _ _, (Turn.refl S w).alloc _, (Turn.refl _ w).alloc _⟩ ?_
  rintro W1 ⟨hi, hb, ht, ht0⟩
  have H1 := Aside0.mk hi
  have HB1 := Aside0.mk hb
  have HT1 := Aside0.mk ht
  have HBs := Aside0.mk (show ∀ k, S k → k ≠ B from fun k hk e => by have := H.out.lt k hk; omega)
  have HBn := Aside0.mk (Nat.le_of_eq hB.symm)
  have c3 := hi.c3
  have c2 := hi.c2
  have b0 : W1.cell? ⟨B, 0, none⟩ = some (.int .u32 f.f0) := (blk_cell hb 0).trans rfl
  have b1 : W1.cell? ⟨B, 1, none⟩ = some (.int .u32 f.f1) := (blk_cell hb 1).trans rfl
  have b2 : W1.cell? ⟨B, 2, none⟩ = some (.bool f.f2) := (blk_cell hb 2).trans rfl
  clear hi hb ht ht0 hB
  go_upto_region 5 with (fail)
  refine start_ (n := 9) (S := fun w' => w'.cell? ⟨B, 0, none⟩ = some (.int .u32 f.f0) ∧ w'.cell? ⟨B, 1, none⟩ = some (.int .u32 f.f1) ∧ w'.cell? ⟨B, 2, none⟩ = some (.bool f.f2) ∧ w'.cell? ⟨g, 2, none⟩ = some (.int .i64 r.since)) (ds := [8]) #[false, false, false, false, false, false, false, false, false] (by kernel_rfl) rfl rfl ⟨b0, b1, b2, c2⟩ (fun hHeld => ?_)
  refine pure_ (i := 0) (N := some 17) (v := ?_) (a' := ?_) #[true, false, false, false, false, false, false, false, false] rfl rfl (by kernel_rfl) (fun _ _ _ h => h) (Or.inl ⟨by rfl, ?_⟩) ?_ ?_
  rotate_left
  · intro w'
    go_simp
    with_reducible rfl
  rotate_left
  · simp only [Act.put, List.setIfInBounds_toArray, List.set_cons_zero, List.set_cons_succ, i64_w, i32_w]
    rfl
  refine pure_ (i := 2) (N := some 19) (v := ?_) (a' := ?_) #[true, false, true, false, false, false, false, false, false] rfl rfl (by kernel_rfl) (fun _ _ _ h => h) (Or.inl ⟨by rfl, ?_⟩) ?_ ?_
  rotate_left
  · intro w'
    go_simp
    with_reducible rfl
  rotate_left
  · simp only [Act.put, List.setIfInBounds_toArray, List.set_cons_zero, List.set_cons_succ, i64_w, i32_w]
    rfl
  refine pure_ (i := 3) (N := some 20) (v := ?_) (a' := ?_) #[true, false, true, true, false, false, false, false, false] rfl rfl (by kernel_rfl) (fun _ _ _ h => h) (Or.inl ⟨by rfl, ?_⟩) ?_ ?_
  rotate_left
  · intro w'
    go_simp
    with_reducible rfl
  rotate_left
  · simp only [Act.put, List.setIfInBounds_toArray, List.set_cons_zero, List.set_cons_succ, i64_w, i32_w]
    rfl
  refine pure_ (i := 4) (N := some 21) (v := ?_) (a' := ?_) #[true, false, true, true, true, false, false, false, false] rfl rfl (by kernel_rfl) (fun _ _ _ h => h) (Or.inl ⟨by rfl, ?_⟩) ?_ ?_
  rotate_left
  · intro w'
    go_simp
    with_reducible rfl
  rotate_left
  · simp only [Act.put, List.setIfInBounds_toArray, List.set_cons_zero, List.set_cons_succ, i64_w, i32_w]
    rfl
  refine take_ (i := 1) (N := some 18) (v := ?_) (a' := ?_) #[true, true, true, true, true, false, false, false, false] rfl rfl (by kernel_rfl) (fun _ _ _ h => h) (Or.inl ⟨by rfl, ?_⟩) hHeld ?_ ?_
  rotate_left
  · rintro w' ⟨s0, s1, s2, s3⟩
    go_simp
    with_reducible rfl
  rotate_left
  · simp only [Act.put, List.setIfInBounds_toArray, List.set_cons_zero, List.set_cons_succ, i64_w, i32_w]
    rfl
  refine take_ (i := 5) (N := some 22) (v := ?_) (a' := ?_) #[true, true, true, true, true, true, false, false, false] rfl rfl (by kernel_rfl) (fun _ _ _ h => h) (Or.inl ⟨by rfl, ?_⟩) hHeld ?_ ?_
  rotate_left
  · rintro w' ⟨s0, s1, s2, s3⟩
    go_simp
    with_reducible rfl
  rotate_left
  · simp only [Act.put, List.setIfInBounds_toArray, List.set_cons_zero, List.set_cons_succ, i64_w, i32_w]
    rfl
  refine pure_ (i := 6) (N := some 23) (v := ?_) (a' := ?_) #[true, true, true, true, true, true, true, false, false] rfl rfl (by kernel_rfl) (fun _ _ _ h => h) (Or.inl ⟨by rfl, ?_⟩) ?_ ?_
  rotate_left
  · intro w'
    go_simp
    with_reducible rfl
  rotate_left
  · simp only [Act.put, List.setIfInBounds_toArray, List.set_cons_zero, List.set_cons_succ, i64_w, i32_w]
    rfl
  refine one_ (i := 7) (N := some 7) #[true, true, true, true, true, true, true, true, false] rfl rfl (by kernel_rfl) (by decide) (fun K hK => ?_)
  refine value_ (w1 := ?_) (v := ?_) (by rfl) rfl ?_ ?_
  rotate_left 2
  · go_simp
    constructor
    · rfl
    · rfl
  refine hK.out _ _ ⟨(((Turn.refl (fun _ => False) W1).drew.alloc _).cell b0 (fun x => x)), (((Turn.refl (fun _ => False) W1).drew.alloc _).cell b1 (fun x => x)), (((Turn.refl (fun _ => False) W1).drew.alloc _).cell b2 (fun x => x)), (((Turn.refl (fun _ => False) W1).drew.alloc _).cell c2 (fun x => x))⟩ (fun hHeld => ?_)
  clear hK K
  refine norm_ (a' := ?_) ?_ ?_
  rotate_left
  · show Act.put _ (some 7) _ = _
    simp only [Act.put, List.setIfInBounds_toArray, List.set_cons_zero, List.set_cons_succ, i64_w, i32_w]
    rfl
  refine last_ (i := 8) (N := none) #[true, true, true, true, true, true, true, true, true] rfl rfl (by kernel_rfl) (by decide) (fun K hK => ?_)
  refine skip_ (w1 := ?_) (by rfl) rfl ?_ ?_
  rotate_left
  · go_simp
    rfl
  refine hK.out _ _ ?_
  clear hK K
  refine done_ (by kernel_rfl) ?_
  simp only [Exit.then]
  apply_assumption
  have HXn := Aside0.mk (show ∃ X, X = W1.heap.size from ⟨_, rfl⟩)
  obtain ⟨X, hX⟩ := HXn.out
  rw [← hX]
  refine wp_world (fun W => RegI W g mb s F v r.L r.since r.L.length S ∧ W.heap[B]? = some (.cells #[.int .u32 f.f0, .int .u32 f.f1, .bool f.f2] 24 (0, 0)) ∧ W.heap[X]? = some (.cells #[.int .i64 owner, .int .u32 f.f0, .int .u32 f.f1, .bool f.f2, .int .i64 r.since] 59 (0, 0)) ∧ Turn S w W) ⟨H1.out.turn ((Turn.refl (fun _ => False) W1).alloc _).drew (fun _ _ x => x), ((Turn.refl (fun _ => False) W1).alloc _).drew.blk HB1.out (fun x => x), by rw [hX]; exact blk_new W1 _, (HT1.out.alloc _).drew⟩ ?_
  rintro W2 ⟨hi, hb, hx, ht⟩
  have H2 := Aside0.mk hi
  have HB2 := Aside0.mk hb
  have HX2 := Aside0.mk hx
  have HT2 := Aside0.mk ht
  have HXs := Aside0.mk (show (∀ k, S k → k ≠ X) ∧ X ≠ B ∧ w.heap.size ≤ X from ⟨fun k hk e => by have := H1.out.lt k hk; omega, by have := blk_lt HB1.out; omega, by rw [hX]; exact HT1.out.size⟩)
  have z := fun j => blk_frozen hi.hb j
  have c2 := hi.c2
  have c3 := hi.c3
  clear hi hb hx ht hX b0 b1 b2 HXn H1 HB1 HT1
  clear hHeld
  try clear hHeld
  go_upto_region 8 with (fail)
  rw [w1', w2']
  clear w1' w2' c2 c3 z
  refine wp_world (fun W => RegI W g mb s F v r.L (r.since + 1) ((r.L.length + 1 : Nat) : Int) S ∧ W.heap[B]? = some (.cells #[.int .u32 f.f0, .int .u32 f.f1, .bool f.f2] 24 (0, 0)) ∧ W.heap[X]? = some (.cells #[.int .i64 owner, .int .u32 f.f0, .int .u32 f.f1, .bool f.f2, .int .i64 r.since] 59 (0, 0)) ∧ Turn S w W) ?_ ?_
  · have hg := blk_set (blk_set H2.out.hb 2 (.int .i64 (r.since + 1))) 3 (.int .i64 ((r.L.length + 1 : Nat) : Int))
    simp only [List.setIfInBounds_toArray, List.set_cons_zero, List.set_cons_succ] at hg
    have tg := (((Turn.refl (fun k => k = g) W2).setCell (p := ⟨g, 2, none⟩) (.inl rfl) (.int .i64 (r.since + 1))).setCell (p := ⟨g, 3, none⟩) (.inl rfl) (.int .i64 ((r.L.length + 1 : Nat) : Int)))
    exact ⟨H2.out.nums (by omega) hg tg, tg.blk HB2.out (fun e => HBs.out g H2.out.sg e.symm), tg.blk HX2.out (fun e => HXs.out.1 g H2.out.sg e.symm), HT2.out.trans tg (fun k hk => .inl (hk ▸ H2.out.sg))⟩
  rintro W3 ⟨hi, hb, hx, ht⟩
  have b0 : W3.cell? ⟨B, 0, none⟩ = some (.int .u32 f.f0) := (blk_cell hb 0).trans rfl
  have b1 : W3.cell? ⟨B, 1, none⟩ = some (.int .u32 f.f1) := (blk_cell hb 1).trans rfl
  have b2 : W3.cell? ⟨B, 2, none⟩ = some (.bool f.f2) := (blk_cell hb 2).trans rfl
  have H3 := Aside0.mk hi
  have HB3 := Aside0.mk hb
  have HX3 := Aside0.mk hx
  have HT3 := Aside0.mk ht
  have hu := Try.underlying24
  have hu2 := Try.underlying59
  clear hi hb hx ht H2 HB2 HX2 HT2
  go_wp2_with fail
  refine (reg_single.calls f.f0 f.f1 f.f2 _ _ (single_f f)).mono ?_
  rintro e W4 ⟨rfl, hbl⟩
  have ht0 := Turn.of_below hbl (fun _ => False)
  have hi := H3.out.turn ht0 (fun _ _ x => x)
  have hb := ht0.blk HB3.out (fun x => x)
  have hx := ht0.blk HX3.out (fun x => x)
  have H4 := Aside0.mk hi
  have HT4 := Aside0.mk (HT3.out.step hbl)
  clear b0 b1 b2
  have b0 : W4.cell? ⟨B, 0, none⟩ = some (.int .u32 f.f0) := (blk_cell hb 0).trans rfl
  have x0 : W4.cell? ⟨X, 0, none⟩ = some (.int .i64 owner) := (blk_cell hx 0).trans rfl
  have x1 : W4.cell? ⟨X, 1, none⟩ = some (.int .u32 f.f0) := (blk_cell hx 1).trans rfl
  have x2 : W4.cell? ⟨X, 2, none⟩ = some (.int .u32 f.f1) := (blk_cell hx 2).trans rfl
  have x3 : W4.cell? ⟨X, 3, none⟩ = some (.bool f.f2) := (blk_cell hx 3).trans rfl
  have x4 : W4.cell? ⟨X, 4, none⟩ = some (.int .i64 r.since) := (blk_cell hx 4).trans rfl
  have c0 := hi.c0
  have c1 := hi.c1
  have z := fun j => blk_frozen hi.hb j
  clear hi hb hx ht0 hbl H3 HB3 HX3 HT3
  cases ho : isOne f with
  | true =>
    have HO := Aside0.mk ho
    have HLk := Aside0.mk (show ∀ w', Turn (fun _ => False) W4 w' → (Instr.lookup 54 (.map (some mb)) (.int .u32 f.f0) false).run Try.prog w' = .ok (sl0 (F f.f0)) w' from fun w' ht' => (H4.out.map.turn ht' (fun x => x)).mapI.look Try.underlying22 Try.underlying54 (zero55 _) HWf.out)
    clear ho
    go_upto_region 9 with (fail)
    refine start_ (n := 17) (S := fun w' => w'.cell? ⟨g, 0, none⟩ = some (.map (some mb)) ∧ w'.cell? ⟨B, 0, none⟩ = some (.int .u32 f.f0) ∧ (Instr.lookup 54 (.map (some mb)) (.int .u32 f.f0) false).run Try.prog w' = .ok (sl0 (F f.f0)) w' ∧ w'.cell? ⟨X, 0, none⟩ = some (.int .i64 owner) ∧ w'.cell? ⟨X, 1, none⟩ = some (.int .u32 f.f0) ∧ w'.cell? ⟨X, 2, none⟩ = some (.int .u32 f.f1) ∧ w'.cell? ⟨X, 3, none⟩ = some (.bool f.f2) ∧ w'.cell? ⟨X, 4, none⟩ = some (.int .i64 r.since)) (ds := [16]) #[false, false, false, false, false, false, false, false, false, false, false, false, false, false, false, false, false] (by kernel_rfl) rfl rfl ⟨c0, b0, HLk.out _ (Turn.refl _ _).drew, x0, x1, x2, x3, x4⟩ (fun hHeld => ?_)
    refine pure_ (i := 0) (N := some 40) (v := ?_) (a' := ?_) #[true, false, false, false, false, false, false, false, false, false, false, false, false, false, false, false, false] rfl rfl (by kernel_rfl) (fun _ _ _ h => h) (Or.inl ⟨by rfl, ?_⟩) ?_ ?_
    rotate_left
    · intro w'
      go_simp
      with_reducible rfl
    rotate_left
    · simp only [Act.put, List.setIfInBounds_toArray, List.set_cons_zero, List.set_cons_succ, i64_w, i32_w]
      rfl
    refine pure_ (i := 1) (N := some 41) (v := ?_) (a' := ?_) #[true, true, false, false, false, false, false, false, false, false, false, false, false, false, false, false, false] rfl rfl (by kernel_rfl) (fun _ _ _ h => h) (Or.inl ⟨by rfl, ?_⟩) ?_ ?_
    rotate_left
    · intro w'
      go_simp
      with_reducible rfl
    rotate_left
    · simp only [Act.put, List.setIfInBounds_toArray, List.set_cons_zero, List.set_cons_succ, i64_w, i32_w]
      rfl
    refine pure_ (i := 2) (N := some 42) (v := ?_) (a' := ?_) #[true, true, true, false, false, false, false, false, false, false, false, false, false, false, false, false, false] rfl rfl (by kernel_rfl) (fun _ _ _ h => h) (Or.inl ⟨by rfl, ?_⟩) ?_ ?_
    rotate_left
    · intro w'
      go_simp
      with_reducible rfl
    rotate_left
    · simp only [Act.put, List.setIfInBounds_toArray, List.set_cons_zero, List.set_cons_succ, i64_w, i32_w]
      rfl
    refine pure_ (i := 4) (N := some 44) (v := ?_) (a' := ?_) #[true, true, true, false, true, false, false, false, false, false, false, false, false, false, false, false, false] rfl rfl (by kernel_rfl) (fun _ _ _ h => h) (Or.inl ⟨by rfl, ?_⟩) ?_ ?_
    rotate_left
    · intro w'
      go_simp
      with_reducible rfl
    rotate_left
    · simp only [Act.put, List.setIfInBounds_toArray, List.set_cons_zero, List.set_cons_succ, i64_w, i32_w]
      rfl
    refine pure_ (i := 6) (N := some 46) (v := ?_) (a' := ?_) #[true, true, true, false, true, false, true, false, false, false, false, false, false, false, false, false, false] rfl rfl (by kernel_rfl) (fun _ _ _ h => h) (Or.inl ⟨by rfl, ?_⟩) ?_ ?_
    rotate_left
    · intro w'
      go_simp
      with_reducible rfl
    rotate_left
    · simp only [Act.put, List.setIfInBounds_toArray, List.set_cons_zero, List.set_cons_succ, i64_w, i32_w]
      rfl
    refine pure_ (i := 7) (N := some 47) (v := ?_) (a' := ?_) #[true, true, true, false, true, false, true, true, false, false, false, false, false, false, false, false, false] rfl rfl (by kernel_rfl) (fun _ _ _ h => h) (Or.inl ⟨by rfl, ?_⟩) ?_ ?_
    rotate_left
    · intro w'
      go_simp
      with_reducible rfl
    rotate_left
    · simp only [Act.put, List.setIfInBounds_toArray, List.set_cons_zero, List.set_cons_succ, i64_w, i32_w]
      rfl
    refine pure_ (i := 8) (N := some 48) (v := ?_) (a' := ?_) #[true, true, true, false, true, false, true, true, true, false, false, false, false, false, false, false, false] rfl rfl (by kernel_rfl) (fun _ _ _ h => h) (Or.inl ⟨by rfl, ?_⟩) ?_ ?_
    rotate_left
    · intro w'
      go_simp
      with_reducible rfl
    rotate_left
    · simp only [Act.put, List.setIfInBounds_toArray, List.set_cons_zero, List.set_cons_succ, i64_w, i32_w]
      rfl
    refine pure_ (i := 10) (N := some 50) (v := ?_) (a' := ?_) #[true, true, true, false, true, false, true, true, true, false, true, false, false, false, false, false, false] rfl rfl (by kernel_rfl) (fun _ _ _ h => h) (Or.inl ⟨by rfl, ?_⟩) ?_ ?_
    rotate_left
    · intro w'
      go_simp
      with_reducible rfl
    rotate_left
    · simp only [Act.put, List.setIfInBounds_toArray, List.set_cons_zero, List.set_cons_succ, i64_w, i32_w]
      rfl
    refine take_ (i := 3) (N := some 43) (v := ?_) (a' := ?_) #[true, true, true, true, true, false, true, true, true, false, true, false, false, false, false, false, false] rfl rfl (by kernel_rfl) (fun _ _ _ h => h) (Or.inl ⟨by rfl, ?_⟩) hHeld ?_ ?_
    rotate_left
    · rintro w' ⟨s0, s1, s2, s3, s4, s5, s6, s7⟩
      go_simp
      with_reducible rfl
    rotate_left
    · simp only [Act.put, List.setIfInBounds_toArray, List.set_cons_zero, List.set_cons_succ, i64_w, i32_w]
      rfl
    refine take_ (i := 5) (N := some 45) (v := ?_) (a' := ?_) #[true, true, true, true, true, true, true, true, true, false, true, false, false, false, false, false, false] rfl rfl (by kernel_rfl) (fun _ _ _ h => h) (Or.inl ⟨by rfl, ?_⟩) hHeld ?_ ?_
    rotate_left
    · rintro w' ⟨s0, s1, s2, s3, s4, s5, s6, s7⟩
      go_simp
      with_reducible rfl
    rotate_left
    · simp only [Act.put, List.setIfInBounds_toArray, List.set_cons_zero, List.set_cons_succ, i64_w, i32_w]
      rfl
    refine take_ (i := 9) (N := some 49) (v := ?_) (a' := ?_) #[true, true, true, true, true, true, true, true, true, true, true, false, false, false, false, false, false] rfl rfl (by kernel_rfl) (fun _ _ _ h => h) (Or.inl ⟨by rfl, ?_⟩) hHeld ?_ ?_
    rotate_left
    · rintro w' ⟨s0, s1, s2, s3, s4, s5, s6, s7⟩
      go_simp
      with_reducible rfl
    rotate_left
    · simp only [Act.put, List.setIfInBounds_toArray, List.set_cons_zero, List.set_cons_succ, i64_w, i32_w]
      rfl
    refine take_ (i := 11) (N := some 51) (v := ?_) (a' := ?_) #[true, true, true, true, true, true, true, true, true, true, true, true, false, false, false, false, false] rfl rfl (by kernel_rfl) (fun _ _ _ h => h) (Or.inl ⟨by rfl, ?_⟩) hHeld ?_ ?_
    rotate_left
    · rintro w' ⟨s0, s1, s2, s3, s4, s5, s6, s7⟩
      go_simp
      with_reducible rfl
    rotate_left
    · simp only [Act.put, List.setIfInBounds_toArray, List.set_cons_zero, List.set_cons_succ, i64_w, i32_w]
      rfl
    refine take_ (i := 12) (N := some 52) (v := ?_) (a' := ?_) #[true, true, true, true, true, true, true, true, true, true, true, true, true, false, false, false, false] rfl rfl (by kernel_rfl) (fun _ _ _ h => h) (Or.inl ⟨by rfl, ?_⟩) hHeld ?_ ?_
    rotate_left
    · rintro w' ⟨s0, s1, s2, s3, s4, s5, s6, s7⟩
      go_simp
      with_reducible rfl
    rotate_left
    · simp only [Act.put, List.setIfInBounds_toArray, List.set_cons_zero, List.set_cons_succ, i64_w, i32_w]
      rfl
    refine take_ (i := 13) (N := some 53) (v := ?_) (a' := ?_) #[true, true, true, true, true, true, true, true, true, true, true, true, true, true, false, false, false] rfl rfl (by kernel_rfl) (fun _ _ _ h => h) (Or.inl ⟨by rfl, ?_⟩) hHeld ?_ ?_
    rotate_left
    · rintro w' ⟨s0, s1, s2, s3, s4, s5, s6, s7⟩
      go_simp
      with_reducible rfl
    rotate_left
    · simp only [Act.put, List.setIfInBounds_toArray, List.set_cons_zero, List.set_cons_succ, i64_w, i32_w]
      rfl
    refine one_ (i := 14) (N := some 54) #[true, true, true, true, true, true, true, true, true, true, true, true, true, true, true, false, false] rfl rfl (by kernel_rfl) (by decide) (fun K hK => ?_)
    refine value_ (w1 := ?_) (v := ?_) (by rfl) rfl ?_ ?_
    rotate_left 2
    · go_simp
      constructor
      · rfl
      · rfl
    refine hK.out _ _ ⟨(((Turn.refl (fun _ => False) W4).drew.alloc _).cell c0 (fun x => x)), (((Turn.refl (fun _ => False) W4).drew.alloc _).cell b0 (fun x => x)), (HLk.out _ ((Turn.refl _ _).drew.alloc _)), (((Turn.refl (fun _ => False) W4).drew.alloc _).cell x0 (fun x => x)), (((Turn.refl (fun _ => False) W4).drew.alloc _).cell x1 (fun x => x)), (((Turn.refl (fun _ => False) W4).drew.alloc _).cell x2 (fun x => x)), (((Turn.refl (fun _ => False) W4).drew.alloc _).cell x3 (fun x => x)), (((Turn.refl (fun _ => False) W4).drew.alloc _).cell x4 (fun x => x))⟩ (fun hHeld => ?_)
    clear hK K
    refine norm_ (a' := ?_) ?_ ?_
    rotate_left
    · show Act.put _ (some 54) _ = _
      simp only [Act.put, List.setIfInBounds_toArray, List.set_cons_zero, List.set_cons_succ, i64_w, i32_w]
      rfl
    refine one_ (i := 15) (N := some 55) #[true, true, true, true, true, true, true, true, true, true, true, true, true, true, true, true, false] rfl rfl (by kernel_rfl) (by decide) (fun K hK => ?_)
    have hO := ((H4.out.word f.f0).keep (w1 := W4.drew) (fun _ _ => rfl)).R (ok := fun k => (sl0 (F f.f0)).ownBlock = some k ∨ W4.heap.size ≤ k) (fun k hk => .inl hk)
    refine Kd.R_append_step (w0 := W4.drew) (W := W4.drew) kEt 0 (by rfl) _ _ 55 59 (.agg #[.int .i64 0, .int .u32 0, .int .u32 0, .bool false, .int .i64 0]) 32 rfl Try.underlying55 infoEn rfl (by decide) (by decide) (sl0 (F f.f0)) (wordL r.L f.f0) ⟨owner, f, r.since⟩ _ (fun k => (sl0 (F f.f0)).ownBlock = some k ∨ W4.heap.size ≤ k) (fun _ => False) rfl rfl (kEt_mkM _ _ _ ⟨owner, f, r.since⟩) (fun _ hk => hk.elim) (fun k hk => .inr hk) hO (Below.refl _ _) (Nat.zero_le _) (by have := word_len r.L f.f0; have := HL.out; omega) ?_
    intro v1 w3 hR3 _ hg3 hat3
    have hT3 : Turn (fun k => (sl0 (F f.f0)).ownBlock = some k) W4 w3 := ((Turn.refl _ W4).drew).grown hg3 (fun k hk => .inl hk)
    have hX3 := RowX.of_R kEtE hR3
    have hCX : ¬ (sl0 (F f.f0)).ownBlock = some X := fun e => HXs.out.1 X (H4.out.sr f.f0 X e) rfl
    have hCB : ¬ (sl0 (F f.f0)).ownBlock = some B := fun e => HBs.out B (H4.out.sr f.f0 B e) rfl
    have hM3 := H4.out.map.turn hT3 (fun e => H4.out.wm f.f0 e)
    refine hK.out _ _ ⟨(hT3.cell c0 (fun e => H4.out.wg f.f0 e)), (hT3.cell b0 hCB), (hM3.mapI.look Try.underlying22 Try.underlying54 (zero55 _) HWf.out), (hT3.cell x0 hCX), (hT3.cell x1 hCX), (hT3.cell x2 hCX), (hT3.cell x3 hCX), (hT3.cell x4 hCX)⟩ (fun hHeld => ?_)
    clear hK K
    refine norm_ (a' := ?_) ?_ ?_
    rotate_left
    · show Act.put _ (some 55) _ = _
      simp only [Act.put, List.setIfInBounds_toArray, List.set_cons_zero, List.set_cons_succ, i64_w, i32_w]
      rfl
    refine last_ (i := 16) (N := none) #[true, true, true, true, true, true, true, true, true, true, true, true, true, true, true, true, true] rfl rfl (by kernel_rfl) (by decide) (fun K hK => ?_)
    obtain ⟨w4, hrun, hM4, hT4⟩ := hM3.store Try.underlying22 Try.underlying54 (by have := H4.out.hs; have := HSs.out; unfold maxLen; omega) HWf.out v1
    refine skip_ (w1 := w4) (by rfl) rfl ?_ ?_
    · go_simp
    refine hK.out _ _ ?_
    clear hK K
    refine done_ (by kernel_rfl) ?_
    have hs' : (((if (F f.f0).isSome = true then s else s + 1) : Nat) : Int) ≤ r.since + 1 := by
      have := H.out.hs
      split <;> omega
    have hP := Aside0.mk (H4.out.put (L' := r.L ++ [⟨owner, f, r.since⟩]) (id := f.f0) (by rw [wordL_add, if_pos ⟨HO.out, rfl⟩]; exact hX3) hT3 hat3 hM4 ((Turn.refl _ w3).map hT4 (.inl rfl)) hs' (fun i hi => by rw [wordL_add, if_neg (fun h => hi h.2.symm)]) (by rw [restE_add, if_pos HO.out]))
    clear hHeld
    clear hrun hM4 hT4 hM3 hCX hCB hX3 hT3 hat3 hg3 hR3 hO hs' c0 c1 b0 x0 x1 x2 x3 x4 z
    go_wp2_with fail
    go_ret
    have hln : ((r.L.length + 1 : Nat) : Int) = (((addR r owner f).L.length : Nat) : Int) := by
      show _ = (((r.L ++ [_]).length : Nat) : Int)
      rw [List.length_append]
      rfl
    rw [hln] at hP
    refine ⟨rfl, _, ⟨mb, _, _, v, hP.out.1⟩, HT4.out.then_ hP.out.2, fun k hk => ?_⟩
    rcases hk.2 with h | h
    · exact .inl h
    · exact .inr (Nat.le_trans HT4.out.size h)
  | false =>
    have HO := Aside0.mk ho
    clear ho
    go_upto_region 10 with (fail)
    refine start_ (n := 11) (S := fun w' => w'.cell? ⟨g, 1, none⟩ = some v ∧ w'.cell? ⟨X, 0, none⟩ = some (.int .i64 owner) ∧ w'.cell? ⟨X, 1, none⟩ = some (.int .u32 f.f0) ∧ w'.cell? ⟨X, 2, none⟩ = some (.int .u32 f.f1) ∧ w'.cell? ⟨X, 3, none⟩ = some (.bool f.f2) ∧ w'.cell? ⟨X, 4, none⟩ = some (.int .i64 r.since)) (ds := [10]) #[false, false, false, false, false, false, false, false, false, false, false] (by kernel_rfl) rfl rfl ⟨c1, x0, x1, x2, x3, x4⟩ (fun hHeld => ?_)
    refine pure_ (i := 0) (N := some 56) (v := ?_) (a' := ?_) #[true, false, false, false, false, false, false, false, false, false, false] rfl rfl (by kernel_rfl) (fun _ _ _ h => h) (Or.inl ⟨by rfl, ?_⟩) ?_ ?_
    rotate_left
    · intro w'
      go_simp
      with_reducible rfl
    rotate_left
    · simp only [Act.put, List.setIfInBounds_toArray, List.set_cons_zero, List.set_cons_succ, i64_w, i32_w]
      rfl
    refine pure_ (i := 1) (N := some 57) (v := ?_) (a' := ?_) #[true, true, false, false, false, false, false, false, false, false, false] rfl rfl (by kernel_rfl) (fun _ _ _ h => h) (Or.inl ⟨by rfl, ?_⟩) ?_ ?_
    rotate_left
    · intro w'
      go_simp
      with_reducible rfl
    rotate_left
    · simp only [Act.put, List.setIfInBounds_toArray, List.set_cons_zero, List.set_cons_succ, i64_w, i32_w]
      rfl
    refine pure_ (i := 2) (N := some 58) (v := ?_) (a' := ?_) #[true, true, true, false, false, false, false, false, false, false, false] rfl rfl (by kernel_rfl) (fun _ _ _ h => h) (Or.inl ⟨by rfl, ?_⟩) ?_ ?_
    rotate_left
    · intro w'
      go_simp
      with_reducible rfl
    rotate_left
    · simp only [Act.put, List.setIfInBounds_toArray, List.set_cons_zero, List.set_cons_succ, i64_w, i32_w]
      rfl
    refine pure_ (i := 3) (N := some 59) (v := ?_) (a' := ?_) #[true, true, true, true, false, false, false, false, false, false, false] rfl rfl (by kernel_rfl) (fun _ _ _ h => h) (Or.inl ⟨by rfl, ?_⟩) ?_ ?_
    rotate_left
    · intro w'
      go_simp
      with_reducible rfl
    rotate_left
    · simp only [Act.put, List.setIfInBounds_toArray, List.set_cons_zero, List.set_cons_succ, i64_w, i32_w]
      rfl
    refine take_ (i := 4) (N := some 60) (v := ?_) (a' := ?_) #[true, true, true, true, true, false, false, false, false, false, false] rfl rfl (by kernel_rfl) (fun _ _ _ h => h) (Or.inl ⟨by rfl, ?_⟩) hHeld ?_ ?_
    rotate_left
    · rintro w' ⟨s0, s1, s2, s3, s4, s5⟩
      go_simp
      with_reducible rfl
    rotate_left
    · simp only [Act.put, List.setIfInBounds_toArray, List.set_cons_zero, List.set_cons_succ, i64_w, i32_w]
      rfl
    refine take_ (i := 5) (N := some 61) (v := ?_) (a' := ?_) #[true, true, true, true, true, true, false, false, false, false, false] rfl rfl (by kernel_rfl) (fun _ _ _ h => h) (Or.inl ⟨by rfl, ?_⟩) hHeld ?_ ?_
    rotate_left
    · rintro w' ⟨s0, s1, s2, s3, s4, s5⟩
      go_simp
      with_reducible rfl
    rotate_left
    · simp only [Act.put, List.setIfInBounds_toArray, List.set_cons_zero, List.set_cons_succ, i64_w, i32_w]
      rfl
    refine one_ (i := 6) (N := some 62) #[true, true, true, true, true, true, true, false, false, false, false] rfl rfl (by kernel_rfl) (by decide) (fun K hK => ?_)
    refine value_ (w1 := ?_) (v := ?_) (by rfl) rfl ?_ ?_
    rotate_left 2
    · go_simp
      constructor
      · rfl
      · rfl
    refine hK.out _ _ ⟨(((Turn.refl (fun _ => False) W4).drew.alloc _).cell c1 (fun x => x)), (((Turn.refl (fun _ => False) W4).drew.alloc _).cell x0 (fun x => x)), (((Turn.refl (fun _ => False) W4).drew.alloc _).cell x1 (fun x => x)), (((Turn.refl (fun _ => False) W4).drew.alloc _).cell x2 (fun x => x)), (((Turn.refl (fun _ => False) W4).drew.alloc _).cell x3 (fun x => x)), (((Turn.refl (fun _ => False) W4).drew.alloc _).cell x4 (fun x => x))⟩ (fun hHeld => ?_)
    clear hK K
    refine norm_ (a' := ?_) ?_ ?_
    rotate_left
    · show Act.put _ (some 62) _ = _
      simp only [Act.put, List.setIfInBounds_toArray, List.set_cons_zero, List.set_cons_succ, i64_w, i32_w]
      rfl
    refine one_ (i := 7) (N := some 63) #[true, true, true, true, true, true, true, true, false, false, false] rfl rfl (by kernel_rfl) (by decide) (fun K hK => ?_)
    have hO := (H4.out.rest.keep (w1 := W4.drew) (fun _ _ => rfl)).R (ok := fun k => v.ownBlock = some k ∨ W4.heap.size ≤ k) (fun k hk => .inl hk)
    refine Kd.R_append_step (w0 := W4.drew) (W := W4.drew) kEt 0 (by rfl) _ _ 55 59 (.agg #[.int .i64 0, .int .u32 0, .int .u32 0, .bool false, .int .i64 0]) 32 rfl Try.underlying55 infoEn rfl (by decide) (by decide) v (restE r.L) ⟨owner, f, r.since⟩ _ (fun k => v.ownBlock = some k ∨ W4.heap.size ≤ k) (fun _ => False) rfl rfl (kEt_mkM _ _ _ ⟨owner, f, r.since⟩) (fun _ hk => hk.elim) (fun k hk => .inr hk) hO (Below.refl _ _) (Nat.zero_le _) (by have := rest_len r.L; have := HL.out; omega) ?_
    intro v1 w3 hR3 _ hg3 hat3
    obtain ⟨A2, c2', rfl⟩ := Kd.R_slice hR3
    have hT3 : Turn (fun k => v.ownBlock = some k) W4 w3 := ((Turn.refl _ W4).drew).grown hg3 (fun k hk => .inl hk)
    have hX3 := RowX.of_R kEtE hR3
    have hCX : ¬ v.ownBlock = some X := fun e => HXs.out.1 X (H4.out.sv X e) rfl
    have hb3 := hT3.blk H4.out.hb (fun e => H4.out.vg e)
    have z3 := fun j => blk_frozen hb3 j
    refine hK.out _ _ ⟨(hT3.cell c1 (fun e => H4.out.vg e)), (hT3.cell x0 hCX), (hT3.cell x1 hCX), (hT3.cell x2 hCX), (hT3.cell x3 hCX), (hT3.cell x4 hCX)⟩ (fun hHeld => ?_)
    clear hK K
    refine norm_ (a' := ?_) ?_ ?_
    rotate_left
    · show Act.put _ (some 63) _ = _
      simp only [Act.put, List.setIfInBounds_toArray, List.set_cons_zero, List.set_cons_succ, i64_w, i32_w]
      rfl
    refine pure_ (i := 8) (N := some 64) (v := ?_) (a' := ?_) #[true, true, true, true, true, true, true, true, true, false, false] rfl rfl (by kernel_rfl) (fun _ _ _ h => h) (Or.inl ⟨by rfl, ?_⟩) ?_ ?_
    rotate_left
    · intro w'
      go_simp
      with_reducible rfl
    rotate_left
    · simp only [Act.put, List.setIfInBounds_toArray, List.set_cons_zero, List.set_cons_succ, i64_w, i32_w]
      rfl
    refine pure_ (i := 9) (N := some 65) (v := ?_) (a' := ?_) #[true, true, true, true, true, true, true, true, true, true, false] rfl rfl (by kernel_rfl) (fun _ _ _ h => h) (Or.inl ⟨by rfl, ?_⟩) ?_ ?_
    rotate_left
    · intro w'
      go_simp
      with_reducible rfl
    rotate_left
    · simp only [Act.put, List.setIfInBounds_toArray, List.set_cons_zero, List.set_cons_succ, i64_w, i32_w]
      rfl
    refine last_ (i := 10) (N := none) #[true, true, true, true, true, true, true, true, true, true, true] rfl rfl (by kernel_rfl) (by decide) (fun K hK => ?_)
    refine skip_ (w1 := ?_) (by rfl) rfl ?_ ?_
    rotate_left
    · go_simp
      rfl
    refine hK.out _ _ ?_
    clear hK K
    refine done_ (by kernel_rfl) ?_
    have hP := Aside0.mk (H4.out.putR (L' := r.L ++ [⟨owner, f, r.since⟩]) (by rw [restE_add, if_neg (by rw [HO.out]; decide)]; exact hX3) hT3 hat3 (fun i => by rw [wordL_add, if_neg (fun h => by rw [HO.out] at h; cases h.1)]))
    have hl1 : (restE r.L).length + 1 = (restE r.L ++ [(⟨owner, f, r.since⟩ : Ent)]).length := by simp
    have HL1 := Aside0.mk hl1
    clear hl1
    clear hHeld
    clear hCX hX3 hT3 hat3 hg3 hR3 hO c0 c1 b0 x0 x1 x2 x3 x4 z z3 hb3
    go_wp2_with fail
    go_ret
    rw [HL1.out]
    have hln : ((r.L.length + 1 : Nat) : Int) = (((addR r owner f).L.length : Nat) : Int) := by
      show _ = (((r.L ++ [_]).length : Nat) : Int)
      rw [List.length_append]
      rfl
    rw [hln] at hP
    refine ⟨rfl, _, ⟨mb, s, F, _, hP.out.1⟩, HT4.out.then_ hP.out.2, fun k hk => ?_⟩
    rcases hk.2 with h | h
    · exact .inl h
    · exact .inr (Nat.le_trans HT4.out.size h)
end Go.Proofs.Ytaninnkhdhpcgaa.P

namespace Go.Proofs.Ytaninnkhdhpcgaa.P
open Go.RowKit Go.Maps Go.ChangeMaps Go.MapKept Go.WideShapes Go.Proofs.YtaninnkhdhpcgaaW.PrintWords Go.Proofs.YtaninnkhdhpcgaaW.PrintLast
open Go.WideElems (Fit rd rg pl rd_key rd_val rg_of other_key rd_mk)
set_option linter.unusedVariables false
set_option linter.unusedSimpArgs false

theorem ranges_store {P : Program} {k t e : TypeId} {R : Value → Option (DataW Value × List MemPlace)} {w : World} {b r n cnt : Nat} {D : DataW Value} {left : Lit → Bool} (h : w.ranges P k R b r n D left cnt) (K : Keyed P k) (ht : P.underlying t = some (.map k e)) (hn : n < maxLen)
    {key val : Value} {kl : Lit} {d : DataW Value} {ps : List MemPlace} (hkey : keyOf P k key = some kl) (hv : R val = some (d, ps)) (hthere : ∀ es clock, w.heap[b]? = some (.map es clock) → ∃ x ∈ es.toList, x.key = key) :
    ∃ w', (Instr.mapUpdate t (.map (some b)) key val).run P w = .ok () w' ∧ w'.ranges P k R b r n (D.put kl d) left cnt ∧ w.mapTurned w' b := by
  have hne := h.ne
  obtain ⟨es, clock, since, seen, c0, hb, F, hs, rfl, hr, hold, rfl, hl1, hl2, hsc, hsk⟩ := h
  obtain ⟨es2, clock2, hrun2, F2, hput, _⟩ := Maps.fit_store (R' := R) K ht hb F (Nat.lt_of_le_of_lt hs hn) (fun _ _ _ _ hz => hz) hkey hv
  obtain ⟨x9, hx9, hk9⟩ := hthere es clock hb
  rcases K.find w hkey es.toList F.keys with ⟨h1, h2⟩ | ⟨j, e0, h1, h2, h3⟩
  · exact absurd hk9 (h2 x9 hx9)
  · have hj : es[j]? = some e0 := by simpa using h2
    have hrun1 : (Instr.mapUpdate t (.map (some b)) key val).run P w = .ok () (setBlock w b (.map (es.modify j (fun e' => { e' with key := key, val := val })) clock)) := by
      simp [Instr.mapUpdate, run_underlying ht, MapKept.run_getObj_map hb, K.check w false hkey, h1, hj, h3, K.stays w hkey, MapKept.run_setObj_map _ hb, Result.andThen, setBlock]
    have hw : setBlock w b (.map (es.modify j (fun e' => { e' with key := key, val := val })) clock) = setBlock w b (.map es2 clock2) := by
      rw [hrun1] at hrun2
      injection hrun2
    have hh : some (Obj.map (es.modify j (fun e' => { e' with key := key, val := val })) clock) = some (Obj.map es2 clock2) := by
      rw [← heap_setBlock_same hb (.map (es.modify j (fun e' => { e' with key := key, val := val })) clock), hw, heap_setBlock_same hb]
    injection hh with hh
    injection hh with hh1 hh2
    subst hh1
    subst hh2
    have hlist : (es.modify j (fun e' => { e' with key := key, val := val })).toList = es.toList.set j { e0 with key := key, val := val } := by rw [Array.toList_modify, Go.ChangeMaps.modify_eq_set _ _ _ _ h2]
    have hm0 : e0 ∈ es.toList := List.mem_of_getElem? h2
    have who : ∀ x ∈ es.toList.set j { e0 with key := key, val := val }, x = { e0 with key := key, val := val } ∨ x ∈ es.toList := fun x hx => (List.mem_or_eq_of_mem_set hx).symm
    have hrg0 : (rg P k R e0).1 = kl := by
      obtain ⟨y, hy⟩ := F.reads e0 hm0
      have m1 := rd_key hy
      rw [h3, hkey] at m1
      rw [rg_of hy]
      exact (Option.some.inj m1).symm
    have hrgn : (rg P k R { e0 with key := key, val := val }).1 = kl := by
      have hy : rd P k R ⟨key, val, e0.born⟩ = some (kl, d) := rd_mk hkey hv
      rw [show ({ e0 with key := key, val := val } : MapEntry) = ⟨key, val, e0.born⟩ from rfl, rg_of hy]
    refine ⟨_, hrun1, ⟨_, clock, since, seen, c0, heap_setBlock_same hb _, F2, by simpa using hs, by rw [DataW.put_eq, hput], (heap_setBlock_other hb _ hne).trans hr, fun x hx => ?_, ?_, fun x hx => ?_, fun kl' hkl => ?_, hsc, hsk⟩, ⟨es, clock, _, clock, hb, rfl⟩⟩
    · rw [hlist] at hx
      rcases who x hx with rfl | hx'
      · exact hold e0 hm0
      · exact hold x hx'
    · have e1 : ∀ a : Array MapEntry, (leftOf a seen).size = ((a.toList.map (·.born)).filter (fun i => !seen.contains i)).length := fun a => by
        unfold leftOf
        rw [← Array.length_toList, Array.toList_filter, List.filter_map, List.length_map]
        rfl
      rw [e1, e1, hlist, List.map_set]
      have e2 : (es.toList.map (·.born)).set j e0.born = es.toList.map (·.born) := by
        refine List.ext_getElem? (fun i => ?_)
        rw [List.getElem?_set]
        split
        · rename_i hij
          subst hij
          rw [List.getElem?_map, h2]
          split
          · rfl
          · rename_i hlt
            have := (List.getElem?_eq_some_iff.1 h2).1
            exact absurd (by simpa using this) hlt
        · rfl
      exact congrArg (fun l => (l.filter (fun i => !seen.contains i)).length) e2
    · rw [hlist] at hx
      rcases who x hx with rfl | hx'
      · rw [hrgn, ← hrg0]
        exact hl1 e0 hm0
      · exact hl1 x hx'
    · obtain ⟨x, hx, rfl⟩ := hl2 kl' hkl
      obtain ⟨i, hi⟩ := List.getElem?_of_mem hx
      by_cases hij : i = j
      · subst hij
        rw [h2] at hi
        cases hi
        refine ⟨{ e0 with key := key, val := val }, ?_, hrgn.trans hrg0.symm⟩
        rw [hlist]
        exact List.mem_of_getElem? (i := i) (by rw [List.getElem?_set, if_pos rfl, if_pos (List.getElem?_eq_some_iff.1 h2).1])
      · refine ⟨x, ?_, rfl⟩
        rw [hlist]
        exact List.mem_of_getElem? (i := i) (by rw [List.getElem?_set, if_neg (fun e => hij e.symm)]; exact hi)
/-- The same, by what stands at whole numbers. -/
theorem RangeZ.store {P : Program} {kt t e : TypeId} {q : IntKind} {w : World} {b r s cnt : Nat} {f : Int → Option Value} {left : Int → Bool} (hu : P.underlying kt = some (.int q)) (ht : P.underlying t = some (.map kt e)) (h : RangeZ P kt q w b r s f left cnt) (hn : s < maxLen) {i : Int} (hi : (Lit.int q i).wf = true) {u : Value} (hf : f i = some u) (v : Value) :
    ∃ w', (Instr.mapUpdate t (.map (some b)) (.int q i) v).run P w = .ok () w' ∧ RangeZ P kt q w' b r s (setM f i (some v)) left cnt ∧ w.mapTurned w' b := by
  obtain ⟨D, l, hr, hfD, hs, hl⟩ := h
  have hhas : Maps.has D (.int q i) = true := by rw [(hfD i hi).2, hf]; rfl
  have hthere : ∀ es clock, w.heap[b]? = some (.map es clock) → ∃ x ∈ es.toList, x.key = .int q i := by
    intro es clock hb
    obtain ⟨es2, clock2, _, _, _, hb2, F, _, hD, _⟩ := hr
    rw [hb] at hb2
    injection hb2 with hb2
    injection hb2 with h1 h2
    subst h1
    subst h2
    rw [hD] at hhas
    obtain ⟨p, hp, hk⟩ := List.any_eq_true.1 (show ((es.toList.map (rg P kt Rv)).foldr DataW.insert []).any (fun p => p.1.sameKey (.int q i)) = true from hhas)
    have hp2 := Go.mem_sorted.1 hp
    obtain ⟨x, hx, rfl⟩ := List.mem_map.1 hp2
    refine ⟨x, hx, ?_⟩
    obtain ⟨y, hy⟩ := F.reads x hx
    have h3 := WideAt.sameKey_eq hk
    have h4 := rd_key hy
    rw [rg_of hy] at h3
    rw [h3] at h4
    exact (int_keyed hu).inj h4 (keyOf_int_mk hu hi)
  obtain ⟨w', hrun, hr', hT⟩ := ranges_store hr (int_keyed hu) ht hn (keyOf_int_mk hu hi) (d := .held v) (ps := []) (val := v) rfl hthere
  have hk : WideAt.IsKeyLit (.int q i) := (int_keyed hu).key (keyOf_int_mk hu hi)
  have hsz := size_put (hr.owns.tidy (int_keyed hu)) (k := .int q i) (.held v)
  rw [hhas, if_pos rfl, hs] at hsz
  refine ⟨w', hrun, ⟨_, l, hr', fun j hj => ?_, hsz, hl⟩, hT⟩
  have hM := hr.owns.isMap
  by_cases e : j = i
  · subst e
    refine ⟨fun z => ?_, ?_⟩
    · rw [atKey_put_same hM hk, setM_same]; rfl
    · rw [has_put_same hM hk, setM_same]; rfl
  · have hne : (Lit.int q j) ≠ (Lit.int q i) := fun h => e (by injection h)
    refine ⟨fun z => ?_, ?_⟩
    · rw [atKey_put_other hne, setM_other f _ e]; exact (hfD j hj).1 z
    · rw [has_put_other hne, setM_other f _ e]; exact (hfD j hj).2
end Go.Proofs.Ytaninnkhdhpcgaa.P

namespace Go.Proofs.Ytaninnkhdhpcgaa.P
open Go.RowKit Go.Maps Go.Proofs.YtaninnkhdhpcgaaW.PrintWords Go.Proofs.YtaninnkhdhpcgaaW.PrintLast Go.Proofs.YtaninnkhdhpcgaaW.PrintMore
set_option linter.unusedVariables false
set_option linter.unusedSimpArgs false

set_option maxHeartbeats 4000000 in
set_option maxRecDepth 100000 in
theorem owns_calls (x : Ent) (o : Int) (b : Nat) (w : World) (hb : w.cell? ⟨b, 0, none⟩ = some (.int .i64 o)) : Calls Try.prog 23 #[.agg #[.int .i64 x.owner, .int .u32 x.flt.f0, .int .u32 x.flt.f1, .bool x.flt.f2, .int .i64 x.since], .pointer (some ⟨b, 0, none⟩)] w fun e w' => e = .returned (.bool (x.owner == o)) ∧ Below w.heap.size w w' := by
  go_enter Try.func23, Try.ntmps23
  go_upto_region 1 with (fail)
  obtain ⟨X, hX⟩ : ∃ X, X = w.heap.size := ⟨_, rfl⟩
  rw [← hX]
  refine wp_world (fun W => W.cell? ⟨X, 0, none⟩ = some (.int .i64 x.owner) ∧ W.cell? ⟨b, 0, none⟩ = some (.int .i64 o) ∧ Below w.heap.size w W) ⟨by rw [hX]; exact (blk_cell (blk_new w _) 0).trans rfl, ((Turn.refl (fun _ => False) w).alloc _).cell hb (fun x => x), below_alloc (Below.refl _ _) _⟩ ?_
  clear hb hX
  rintro W1 ⟨h1, h2, hl⟩
  have HL := Aside0.mk hl
  clear hl
  go_wp2_with fail
  go_ret
  exact ⟨rfl, HL.out⟩
def outE (o : Int) (L : List Ent) : List Ent := L.filter (fun e => !(e.owner == o))
def ownE (o : Int) (L : List Ent) : List Ent := L.filter (fun e => e.owner == o)
/-- A row without an owner's entries: the register's count falls by as many; the row is new. -/
theorem out_take {L : List Ent} {o : Int} {j : Nat} {x : Ent} (hx : L[j]? = some x) : outE o (L.take (j + 1)) = (if x.owner = o then outE o (L.take j) else outE o (L.take j) ++ [x]) ∧ (ownE o (L.take (j + 1))).length = (ownE o (L.take j)).length + (if x.owner = o then 1 else 0) := by
  unfold outE ownE
  rw [List.take_add_one, hx, List.filter_append, List.filter_append, List.length_append]
  by_cases h : x.owner = o
  · simp [h]
  · simp [h]
set_option maxHeartbeats 8000000 in
set_option maxRecDepth 100000 in
theorem reg_without {w : World} {g b : Nat} {v v0 m0 : Value} {L : List Ent} {o sn mn : Int} (hl : L.length ≤ 51200) (hg : w.heap[g]? = some (.cells #[m0, v0, .int .i64 sn, .int .i64 mn] 57 (0, 0))) (hb : w.heap[b]? = some (.cells #[.int .i64 o] 3 (0, 0))) (hx : RowX kEt 59 w v L) (h0 : 0 ≤ mn - (ownE o L).length) (h1 : mn ≤ 1000000) :
    Calls Try.prog 24 #[.pointer (some ⟨g, 0, none⟩), v, .func (.func 23) #[] #[.pointer (some ⟨b, 0, none⟩)]] w fun e w' => ∃ v', e = .returned v' ∧ RowX kEt 59 w' v' (outE o L) ∧ (∀ k, v'.ownBlock = some k → w.heap.size ≤ k) ∧ w'.heap[g]? = some (.cells #[m0, v0, .int .i64 sn, .int .i64 (mn - (ownE o L).length)] 57 (0, 0)) ∧ Turn (fun k => k = g) w w' := by
  obtain ⟨A, c, rfl, hc, hC⟩ := hx.reads
  have HX := Aside0.mk hx
  have HG := Aside0.mk hg
  have HB := Aside0.mk hb
  have HL := Aside0.mk hl
  have H0 := Aside0.mk (And.intro h0 h1)
  have HGb := Aside0.mk (show b ≠ g from fun e => by subst e; rw [hg] at hb; cases hb)
  have HGx := Aside0.mk (show ∀ k, (Value.slice A L.length c).ownBlock = some k → k ≠ g from fun k hk e => hx.ne_cells hg (by decide) (by rw [hk, e]))
  have hu := Try.underlying59
  clear hx hg hb hl hc hC h0 h1
  go_enter Try.func24, Try.ntmps24
  go_wp2_with fail
  go_loopw [7, 12] (fun v7 v12 wr => ∃ j : Nat, j ≤ L.length ∧ v12 = .int .i64 j ∧ Aside0 (RowX kEt 59 wr v7 (outE o (L.take j)) ∧ (∀ k, v7.ownBlock = some k → w.heap.size ≤ k) ∧ wr.heap[g]? = some (.cells #[m0, v0, .int .i64 sn, .int .i64 (mn - (ownE o (L.take j)).length)] 57 (0, 0)) ∧ Turn (fun k => k = g) w wr)) (fun _ v _ => L.length + 1 - (intOf v).toNat)
  case atStart => exact ⟨0, by omega, rfl, ⟨RowX.nil _ _ _, fun k hk => by simp [Value.ownBlock] at hk, by simpa [ownE] using HG.out, Turn.refl _ _⟩⟩
  case round =>
    obtain ⟨j, hj, rfl, HQ⟩ := hrel
    by_cases hjl : j < L.length
    · have d1 : decide ((j : Int) < (L.length : Int)) = true := decide_eq_true (by omega)
      have j1 : (j : Int) < (L.length : Int) := by omega
      have HW := Aside0.mk (show wrap64 ((j : Int) + 1) = ((j + 1 : Nat) : Int) from wrap_succ j (by have := HL.out; omega))
      have HM := Aside0.mk (meas_succ hjl (by have := HL.out; omega))
      obtain ⟨en, hen⟩ : ∃ en, L[j]? = some en := ⟨_, List.getElem?_eq_getElem hjl⟩
      have hxr := HX.out.turn HQ.out.2.2.2 (fun k hk e => HGx.out k hk e)
      obtain ⟨A', c', e1, _, hC⟩ := hxr.reads
      injection e1 with e1 e2 e3
      subst e1
      subst e3
      clear e2
      obtain ⟨ad, rfl, y0, y1, y2, y3, y4⟩ := at_Et hC j hen
      obtain ⟨b9, rfl⟩ := Kd.R_head hxr
      rw [add_plain] at y0 y1 y2 y3 y4
      have HO := Aside0.mk (out_take (o := o) hen)
      clear hC hen hxr
      go_upto_region 5 with (fail)
      obtain ⟨X, hX⟩ : ∃ X, X = wr.heap.size := ⟨_, rfl⟩
      rw [← hX]
      refine wp_world (fun W => RowX kEt 59 W u7 (outE o (L.take j)) ∧ W.heap[g]? = some (.cells #[m0, v0, .int .i64 sn, .int .i64 (mn - (ownE o (L.take j)).length)] 57 (0, 0)) ∧ Turn (fun k => k = g) w W ∧ W.heap[X]? = some (.cells #[.int .i64 en.owner, .int .u32 en.flt.f0, .int .u32 en.flt.f1, .bool en.flt.f2, .int .i64 en.since] 59 (0, 0))) ⟨HQ.out.1.turn ((Turn.refl (fun _ => False) wr).alloc _) (fun _ _ x => x), ((Turn.refl (fun _ => False) wr).alloc _).blk HQ.out.2.2.1 (fun x => x), HQ.out.2.2.2.alloc _, by rw [hX]; exact blk_new _ _⟩ ?_
      rintro W5 ⟨q1, q2, q3, q5⟩
      have HUn := Aside0.mk HQ.out.2.1
      have f0 : W5.cell? ⟨X, 0, none⟩ = some (.int .i64 en.owner) := (blk_cell q5 0).trans rfl
      have f1 : W5.cell? ⟨X, 1, none⟩ = some (.int .u32 en.flt.f0) := (blk_cell q5 1).trans rfl
      have f2 : W5.cell? ⟨X, 2, none⟩ = some (.int .u32 en.flt.f1) := (blk_cell q5 2).trans rfl
      have f3 : W5.cell? ⟨X, 3, none⟩ = some (.bool en.flt.f2) := (blk_cell q5 3).trans rfl
      have f4 : W5.cell? ⟨X, 4, none⟩ = some (.int .i64 en.since) := (blk_cell q5 4).trans rfl
      have Q1 := Aside0.mk q1
      have Q2 := Aside0.mk q2
      have Q3 := Aside0.mk q3
      have Q5 := Aside0.mk q5
      have hb5 : W5.cell? ⟨b, 0, none⟩ = some (.int .i64 o) := (blk_cell (q3.blk HB.out HGb.out) 0).trans rfl
      have HC5 := Aside0.mk (owns_calls en o b W5 hb5)
      clear q1 q2 q3 q5 hX y0 y1 y2 y3 y4 HQ hb5
      go_wp2_with fail
      refine HC5.out.mono ?_
      rintro e W6 ⟨rfl, hbl⟩
      have ht := Turn.of_below hbl (fun _ => False)
      have R1 := Aside0.mk (Q1.out.turn ht (fun _ _ x => x))
      have R2 := Aside0.mk (ht.blk Q2.out (fun x => x))
      have R3 := Aside0.mk (Q3.out.step hbl)
      have R5 := Aside0.mk (ht.blk Q5.out (fun x => x))
      clear hbl ht Q1 Q2 Q3 Q5 HC5 f0 f1 f2 f3 f4
      by_cases he : en.owner = o
      · have d2 : (en.owner == o) = true := beq_iff_eq.mpr he
        have HOa := Aside0.mk (show outE o (L.take (j + 1)) = outE o (L.take j) by rw [HO.out.1, if_pos he])
        have HOb := Aside0.mk (show ((ownE o (L.take (j + 1))).length : Int) = ((ownE o (L.take j)).length : Int) + 1 by have := HO.out.2; rw [if_pos he] at this; omega)
        clear he
        have c3 : W6.cell? ⟨g, 3, none⟩ = some (.int .i64 (mn - (ownE o (L.take j)).length)) := (blk_cell R2.out 3).trans rfl
        have z := fun i => blk_frozen R2.out i
        have hw : wrap64 (mn - ((ownE o (L.take j)).length : Int) - 1) = mn - ((ownE o (L.take (j + 1))).length : Int) := by
          have h1 : (ownE o (L.take j)).length ≤ L.length := Nat.le_trans (List.length_filter_le _ _) (List.length_take_le' j L)
          have h2 := HOb.out
          have h3 := HL.out
          have h4 := H0.out
          rw [w64_small _ (by omega) (by omega)]
          omega
        have HWm := Aside0.mk hw
        clear hw
        rw [d2]
        clear d2
        go_wp2_with fail
        rw [HWm.out]
        have hs := blk_set R2.out 3 (.int .i64 (mn - ((ownE o (L.take (j + 1))).length : Int)))
        simp only [List.setIfInBounds_toArray, List.set_cons_zero, List.set_cons_succ] at hs
        have ts : Turn (fun k => k = g) W6 (W6.setCell ⟨g, 3, none⟩ (.int .i64 (mn - ((ownE o (L.take (j + 1))).length : Int)))) := (Turn.refl (fun k => k = g) _).setCell (.inl rfl) _
        exact ⟨⟨j + 1, by omega, congrArg _ HW.out, ⟨by rw [HOa.out]; exact R1.out.turn ts (fun k hk e => R1.out.ne_cells R2.out (by decide) (by rw [hk, e])), HUn.out, hs, R3.out.then_ ts⟩⟩, HM.out⟩
      · have d2 : (en.owner == o) = false := beq_eq_false_iff_ne.mpr he
        have HOa := Aside0.mk (show outE o (L.take (j + 1)) = outE o (L.take j) ++ [en] by rw [HO.out.1, if_neg he])
        have HOb := Aside0.mk (show (ownE o (L.take (j + 1))).length = (ownE o (L.take j)).length by have := HO.out.2; rw [if_neg he] at this; omega)
        have HLe := Aside0.mk (show (outE o (L.take j)).length ≤ 51200 from Nat.le_trans (List.length_filter_le _ _) (Nat.le_trans (List.length_take_le' j L) HL.out))
        clear he
        have f0 : W6.cell? ⟨X, 0, none⟩ = some (.int .i64 en.owner) := (blk_cell R5.out 0).trans rfl
        have f1 : W6.cell? ⟨X, 1, none⟩ = some (.int .u32 en.flt.f0) := (blk_cell R5.out 1).trans rfl
        have f2 : W6.cell? ⟨X, 2, none⟩ = some (.int .u32 en.flt.f1) := (blk_cell R5.out 2).trans rfl
        have f3 : W6.cell? ⟨X, 3, none⟩ = some (.bool en.flt.f2) := (blk_cell R5.out 3).trans rfl
        have f4 : W6.cell? ⟨X, 4, none⟩ = some (.int .i64 en.since) := (blk_cell R5.out 4).trans rfl
        rw [d2]
        clear d2
        go_wp2_with (at_builtin; go_loud (refine Kd.R_append kEt (W := W6) (w0 := W6) 0 rfl (.tmp 26) (.tmp 28) 55 59 (.agg #[.int .i64 0, .int .u32 0, .int .u32 0, .bool false, .int .i64 0]) 32 rfl Try.underlying55 infoEn rfl (by decide) (by decide) u7 (outE o (L.take j)) en _ (fun x => u7.ownBlock = some x ∨ W6.heap.size ≤ x) (fun _ => False) rfl rfl (kEt_mkM _ _ _ en) (fun _ hk => hk.elim) (fun x hx => .inr hx) (R1.out.R (fun x hx => .inl hx)) (Below.refl _ _) (Nat.zero_le _) (by have := HLe.out; omega) ?_))
        intro v8 w8 hR hB hg hat
        have T8 : Turn (fun k => u7.ownBlock = some k) W6 w8 := (Turn.refl _ W6).grown hg (fun k hk => .inl hk)
        have P1 := Aside0.mk (show RowX kEt 59 w8 v8 (outE o (L.take (j + 1))) by rw [HOa.out]; exact RowX.of_R kEtE hR)
        have P2 := Aside0.mk (show ∀ k, v8.ownBlock = some k → w.heap.size ≤ k from fun k hk => by
          rcases hat with h | ⟨b, hb, hl⟩
          · exact HUn.out k (by rw [← h]; exact hk)
          · rw [hb] at hk
            cases hk
            exact Nat.le_trans R3.out.size hl)
        have P3 := Aside0.mk (show w8.heap[g]? = some (.cells #[m0, v0, .int .i64 sn, .int .i64 (mn - (ownE o (L.take (j + 1))).length)] 57 (0, 0)) by rw [HOb.out]; exact T8.blk R2.out (fun e => R1.out.ne_cells R2.out (by decide) e))
        have P4 := Aside0.mk (R3.out.trans T8 (fun k hk => .inr (HUn.out k hk)))
        clear hR hB hg hat T8 f0 f1 f2 f3 f4
        go_wp2_with fail
        exact ⟨⟨j + 1, by omega, congrArg _ HW.out, ⟨P1.out, P2.out, P3.out, P4.out⟩⟩, HM.out⟩
    · obtain rfl : j = L.length := by omega
      have d1 : decide ((L.length : Int) < (L.length : Int)) = false := decide_eq_false (by omega)
      have hq := HQ.out
      rw [List.take_length] at hq
      have G := Aside0.mk hq
      clear hq HQ
      go_wp2_with fail
      go_ret
      exact ⟨u7, rfl, G.out.1, G.out.2.1, G.out.2.2.1, G.out.2.2.2⟩
end Go.Proofs.Ytaninnkhdhpcgaa.P

namespace Go.Proofs.Ytaninnkhdhpcgaa.P
open Go.RowKit Go.Maps Go.Proofs.YtaninnkhdhpcgaaW.PrintWords Go.Proofs.YtaninnkhdhpcgaaW.PrintLast Go.Proofs.YtaninnkhdhpcgaaW.PrintMore
set_option linter.unusedVariables false
set_option linter.unusedSimpArgs false

def dropR (r : RGv) (o : Int) : RGv := ⟨r.since, outE o r.L⟩
theorem outE_word (L : List Ent) (o i : Int) : wordL (outE o L) i = outE o (wordL L i) := by
  unfold wordL outE
  rw [List.filter_filter, List.filter_filter]
  refine List.filter_congr (fun e _ => ?_)
  cases isOne e.flt <;> cases (e.owner == o) <;> simp
theorem outE_rest (L : List Ent) (o : Int) : restE (outE o L) = outE o (restE L) := by
  unfold restE outE
  rw [List.filter_filter, List.filter_filter]
  refine List.filter_congr (fun e _ => ?_)
  cases isOne e.flt <;> cases (e.owner == o) <;> simp
theorem out_own_len (L : List Ent) (o : Int) : (outE o L).length + (ownE o L).length = L.length := by
  unfold outE ownE
  induction L with
  | nil => rfl
  | cons a L ih =>
    rw [List.filter_cons, List.filter_cons]
    cases h : (a.owner == o)
    · simp only [Bool.not_false, if_true, List.length_cons, Bool.false_eq_true, if_false]
      omega
    · simp only [Bool.not_true, if_true, List.length_cons, Bool.false_eq_true, if_false]
      omega
/-- How many of the owner's entries stand at words that are still to come: all that are gone is the rest. -/
def leftOwn (L : List Ent) (o : Int) (left : Int → Bool) : Nat := (L.filter (fun e => isOne e.flt && left e.flt.f0 && e.owner == o)).length
theorem leftOwn_take (L : List Ent) (o : Int) (left : Int → Bool) (i : Int) (hi : left i = true) : leftOwn L o left = leftOwn L o (fun j => left j && !(j == i)) + (ownE o (wordL L i)).length := by
  unfold leftOwn ownE wordL
  induction L with
  | nil => rfl
  | cons a L ih =>
    simp only [List.filter_cons]
    by_cases h1 : isOne a.flt = true
    · by_cases h2 : a.flt.f0 = i
      · by_cases h3 : a.owner = o
        · simp [h1, h2, h3, hi] at ih ⊢
          omega
        · have h3' : (a.owner == o) = false := beq_eq_false_iff_ne.mpr h3
          simp [h1, h2, h3', hi] at ih ⊢
          omega
      · have h2' : (a.flt.f0 == i) = false := beq_eq_false_iff_ne.mpr h2
        simp [h1, h2'] at ih ⊢
        split <;> simp_all <;> omega
    · have h1' : isOne a.flt = false := by simpa using h1
      simp [h1'] at ih ⊢
      omega
/-- L without the owner's entries at words that are no longer left. -/
def Lv (L : List Ent) (o : Int) (left : Int → Bool) : List Ent := L.filter (fun e => !(e.owner == o && isOne e.flt && !left e.flt.f0))
theorem lv_word (L : List Ent) (o : Int) (left : Int → Bool) (i : Int) : wordL (Lv L o left) i = if left i = true then wordL L i else outE o (wordL L i) := by
  unfold wordL Lv outE
  by_cases h : left i = true
  · rw [if_pos h, List.filter_filter]
    refine List.filter_congr (fun e _ => ?_)
    by_cases h2 : e.flt.f0 = i
    · rw [h2, h]
      simp
    · have h2' : (e.flt.f0 == i) = false := beq_eq_false_iff_ne.mpr h2
      simp [h2']
  · rw [if_neg h, List.filter_filter, List.filter_filter]
    have h' : left i = false := by simpa using h
    refine List.filter_congr (fun e _ => ?_)
    by_cases h2 : e.flt.f0 = i
    · rw [h2, h']
      cases isOne e.flt <;> cases (e.owner == o) <;> simp
    · have h2' : (e.flt.f0 == i) = false := beq_eq_false_iff_ne.mpr h2
      simp [h2']
theorem lv_rest (L : List Ent) (o : Int) (left : Int → Bool) : restE (Lv L o left) = restE L := by
  unfold restE Lv
  rw [List.filter_filter]
  refine List.filter_congr (fun e _ => ?_)
  cases isOne e.flt <;> simp
theorem lv_len (L : List Ent) (o : Int) (left : Int → Bool) (i : Int) (hi : left i = true) : (Lv L o (fun j => left j && !(j == i))).length + (ownE o (wordL L i)).length = (Lv L o left).length := by
  unfold Lv ownE wordL
  rw [List.filter_filter]
  induction L with
  | nil => rfl
  | cons a L ih =>
    simp only [List.filter_cons]
    by_cases h2 : a.flt.f0 = i
    · rw [h2, hi]
      cases isOne a.flt <;> cases (a.owner == o) <;> simp_all <;> omega
    · have h2' : (a.flt.f0 == i) = false := beq_eq_false_iff_ne.mpr h2
      rw [h2']
      cases isOne a.flt <;> cases (a.owner == o) <;> cases left a.flt.f0 <;> simp_all <;> omega
section
variable {w w2 : World} {g mb s : Nat} {f : Int → Option Value} {v : Value} {L : List Ent} {sn mn : Int} {S : Nat → Prop}
/-- A new row, of no block of the register's, is stored at a word. -/
theorem RegI.putN (h : RegI w g mb s f v L sn mn S) {id : Int} {L' : List Ent} {v1 : Value} {s' : Nat} (hX : RowX kEt 59 w v1 (wordL L' id)) (hn : ∀ k, v1.ownBlock = some k → ¬ S k)
    (hM : MapZ Try.prog 22 .u32 w2 mb s' (setM f id (some v1))) (hm : Turn (fun k => k = mb) w w2) (hs : (s' : Int) ≤ sn) (ho : ∀ i, i ≠ id → wordL L' i = wordL L i) (hr : restE L' = restE L) :
    RegI w2 g mb s' (setM f id (some v1)) v L' sn mn (fun k => k < w2.heap.size ∧ (S k ∨ v1.ownBlock = some k)) := by
  have hlt : ∀ k, S k → k < w2.heap.size := fun k hk => Nat.lt_of_lt_of_le (h.lt k hk) hm.size
  obtain ⟨es, cl, hmb⟩ := h.map.block
  have hv1m : v1.ownBlock ≠ some mb := hX.ne_map hmb
  have hf : ∀ i, i ≠ id → setM f id (some v1) i = f i := fun i hi => setM_other f _ hi
  have new : ∀ i k, v1.ownBlock = some k → (sl0 (f i)).ownBlock = some k → False := fun i k hk hk2 => hn k hk (h.sr i k hk2)
  refine ⟨hm.blk h.hb (fun e => h.gm e.symm), hM, hs, fun i => ?_, ?_, fun i j k hi hj => ?_, fun i k hi => ?_, ⟨hlt g h.sg, .inl h.sg⟩, ⟨hlt mb h.sm, .inl h.sm⟩, fun i k hi => ?_, fun k hk => ⟨hlt k (h.sv k hk), .inl (h.sv k hk)⟩, fun k hk => hk.1⟩
  · by_cases hi : i = id
    · subst hi
      rw [setM_same]
      exact hX.turn hm (fun k hk e => hv1m (by rw [hk, e]))
    · rw [hf i hi, ho i hi]
      exact (h.word i).turn hm (fun k hk e => h.wm i (by rw [hk, e]))
  · rw [hr]
    exact h.rest.turn hm (fun k hk e => h.vm (by rw [hk, e]))
  · by_cases hii : i = id
    · by_cases hjj : j = id
      · rw [hii, hjj]
      · rw [hii, setM_same] at hi
        rw [hf j hjj] at hj
        exact (new j k hi hj).elim
    · rw [hf i hii] at hi
      by_cases hjj : j = id
      · rw [hjj, setM_same] at hj
        exact (new i k hj hi).elim
      · rw [hf j hjj] at hj
        exact h.apart i j k hi hj
  · by_cases hii : i = id
    · rw [hii, setM_same] at hi
      exact fun e => hn k hi (h.sv k e)
    · rw [hf i hii] at hi
      exact h.ra i k hi
  · by_cases hii : i = id
    · rw [hii, setM_same] at hi
      have hi' : v1.ownBlock = some k := hi
      exact ⟨Nat.lt_of_lt_of_le (hX.lt hi') hm.size, .inr hi'⟩
    · rw [hf i hii] at hi
      exact ⟨hlt k (h.sr i k hi), .inl (h.sr i k hi)⟩
/-- A new row, of no block of the register's, is stored as the rest. -/
theorem RegI.putRN (h : RegI w g mb s f v L sn mn S) {L' : List Ent} {v1 : Value} (hX : RowX kEt 59 w v1 (restE L')) (hn : ∀ k, v1.ownBlock = some k → ¬ S k) (ho : ∀ i, wordL L' i = wordL L i) :
    RegI (w.setCell ⟨g, 1, none⟩ v1) g mb s f v1 L' sn mn (fun k => k < w.heap.size ∧ (S k ∨ v1.ownBlock = some k)) := by
  have hg := blk_set h.hb 1 v1
  simp only [List.setIfInBounds_toArray, List.set_cons_zero, List.set_cons_succ] at hg
  have hs : Turn (fun k => k = g) w (w.setCell ⟨g, 1, none⟩ v1) := (Turn.refl (fun k => k = g) _).setCell (.inl rfl) _
  have hne : v1.ownBlock ≠ some g := hX.ne_cells h.hb (by decide)
  refine ⟨hg, h.map.turn hs h.gm, h.hs, fun i => ?_, hX.turn hs (fun k hk e => hne (by rw [hk, e])), h.apart, fun i k hi e => hn k e (h.sr i k hi), ⟨h.lt g h.sg, .inl h.sg⟩, ⟨h.lt mb h.sm, .inl h.sm⟩, fun i k hi => ⟨h.lt k (h.sr i k hi), .inl (h.sr i k hi)⟩, fun k hk => ⟨hX.lt hk, .inr hk⟩, fun k hk => Nat.lt_of_lt_of_le hk.1 hs.size⟩
  rw [ho i]
  exact (h.word i).turn hs (fun k hk e => h.wg i (by rw [hk, e]))
end
end Go.Proofs.Ytaninnkhdhpcgaa.P

namespace Go.Proofs.Ytaninnkhdhpcgaa.P
open Go.RowKit Go.Maps Go.Proofs.YtaninnkhdhpcgaaW.PrintWords Go.Proofs.YtaninnkhdhpcgaaW.PrintLast Go.Proofs.YtaninnkhdhpcgaaW.PrintMore
set_option linter.unusedVariables false
set_option linter.unusedSimpArgs false

theorem lv_start {L : List Ent} {o : Int} {left : Int → Bool} (h : ∀ e ∈ L, isOne e.flt = true → left e.flt.f0 = true) : Lv L o left = L := by
  unfold Lv
  refine List.filter_eq_self.2 (fun e he => ?_)
  cases h1 : isOne e.flt
  · simp
  · rw [h e he h1]
    simp
theorem lv_end {L : List Ent} {o : Int} {left : Int → Bool} (h : ∀ e ∈ L, isOne e.flt = true → left e.flt.f0 = false) : (outE o L).length + (ownE o (restE L)).length = (Lv L o left).length := by
  unfold outE ownE restE Lv
  rw [List.filter_filter]
  induction L with
  | nil => rfl
  | cons a L ih =>
    have ih' := ih (fun e he => h e (List.mem_cons_of_mem _ he))
    have h0 := h a List.mem_cons_self
    simp only [List.filter_cons]
    cases h1 : isOne a.flt
    · cases h2 : (a.owner == o) <;> simp_all <;> omega
    · have h3 := h0 h1
      rw [h3]
      cases h2 : (a.owner == o) <;> simp_all <;> omega
set_option maxHeartbeats 16000000 in
set_option maxRecDepth 100000 in
theorem reg_Drop {w : World} {g : Nat} {r : RGv} {S : Nat → Prop} (o : Int) (ok : ROk r) (hwf : ∀ e ∈ r.L, (Lit.int .u32 e.flt.f0).wf = true) (h : IsReg g r w S) :
    Calls Try.prog 10 #[.pointer (some ⟨g, 0, none⟩), .int .i64 o] w fun e w' => e = .returned (.int .i64 ((ownE o r.L).length : Nat)) ∧ ∃ S', IsReg g (dropR r o) w' S' ∧ Turn S w w' ∧ (∀ k, S' k → S k ∨ w.heap.size ≤ k) := by
  obtain ⟨mb, s, F, v, h⟩ := h
  have H := Aside0.mk h
  have OK := Aside0.mk ok
  have HWf := Aside0.mk hwf
  have hmf : ∀ (fn : Fn) (first cap : Array Value) (w : World), (Instr.makeFunc fn first cap).run Try.prog w = .ok (.func fn first cap) w := fun _ _ _ _ => rfl
  clear h ok hwf
  go_enter Try.func10, Try.ntmps10
  go_upto_region 1 with (fail)
  obtain ⟨B, hB⟩ : ∃ B, B = w.heap.size := ⟨_, rfl⟩
  rw [← hB]
  refine wp_world (fun W => RegI W g mb s F v r.L r.since r.L.length S ∧ W.heap[B]? = some (.cells #[.int .i64 o] 3 (0, 0)) ∧ Turn S w W) ⟨H.out.turn ((Turn.refl (fun _ => False) w).alloc _) (fun _ _ x => x), by rw [hB]; exact blk_new _ _, (Turn.refl S w).alloc _⟩ ?_
  rintro W1 ⟨hi, hb, ht⟩
  have H1 := Aside0.mk hi
  have HB1 := Aside0.mk hb
  have HT1 := Aside0.mk ht
  have HBs := Aside0.mk (show (∀ k, S k → k ≠ B) ∧ w.heap.size ≤ B from ⟨fun k hk e => by have := H.out.lt k hk; omega, Nat.le_of_eq hB.symm⟩)
  have c0 := hi.c0
  have c3 := hi.c3
  clear hi hb ht hB
  go_wp2_with (at_range; refine wpList_range_z Try.underlying22 Try.underlying54 rfl _ rfl rfl H1.out.map ?_)
  intro w1 hrg ht hs
  have HR := Aside0.mk hrg
  have HT := Aside0.mk ht
  obtain ⟨rr, hr⟩ : ∃ rr, rr = W1.heap.size := ⟨_, rfl⟩
  have HN := Aside0.mk (show ∀ k, S k → k ≠ rr from fun k hk e => by have := H1.out.lt k hk; omega)
  have HN2 := Aside0.mk (show w.heap.size ≤ rr by rw [hr]; exact HT1.out.size)
  rw [← hr] at HR ⊢
  clear hrg ht hs c0 c3 hr
  go_wp2_with fail
  have HRr := Aside0.mk (show rr ≠ B ∧ (∀ k, S k → k ≠ rr) ∧ w.heap.size ≤ rr ∧ rr ≠ g from ⟨fun e => by have := HR.out.ne_cells (HT.out.blk HB1.out (fun x => x)); exact this e, fun k hk e => HN.out k hk e, HN2.out, fun e => by have := HR.out.ne_cells (HT.out.blk H1.out.hb (fun x => x)); exact this e⟩)
  go_loopw [] (fun wr => ∃ f left cnt S', Aside0 (RegI wr g mb s f v (Lv r.L o left) r.since (Lv r.L o left).length S' ∧ RangeZ Try.prog 22 .u32 wr mb rr s f left cnt ∧ wr.heap[B]? = some (.cells #[.int .i64 o] 3 (0, 0)) ∧ Turn S w wr ∧ (∀ k, S' k → S k ∨ (w.heap.size ≤ k ∧ k ≠ B ∧ k ≠ rr)))) (fun wr => wr.rangeLeft mb rr)
  case atStart =>
    have hst : Lv r.L o (fun i => (F i).isSome) = r.L := lv_start (fun e he h1 => by
      cases hF : F e.flt.f0 with
      | some u => rfl
      | none =>
        have hw := H1.out.word e.flt.f0
        rw [hF] at hw
        obtain ⟨A, c, e1, _, _⟩ := hw.reads
        have hm : e ∈ wordL r.L e.flt.f0 := List.mem_filter.2 ⟨he, by simp [h1]⟩
        unfold sl0 at e1
        injection e1 with _ e2 _
        rw [List.eq_nil_of_length_eq_zero e2.symm] at hm
        cases hm)
    refine ⟨F, _, _, S, ⟨?_, HR.out, HT.out.blk HB1.out (fun x => x), HT1.out.trans HT.out (fun k hk => hk.elim), fun k hk => .inl hk⟩⟩
    rw [hst]
    exact H1.out.turn HT.out (fun _ _ x => x)
  case round =>
    obtain ⟨f, left, cnt, S', HQ⟩ := hrel
    go_wp2_with (at_next; refine wpList_next_z Try.underlying22 rfl _ rfl rfl HQ.out.2.1 ?_ ?_)
    · intro h0 hl
      have HL0 := Aside0.mk hl
      clear hl h0
      have hend : ∀ e ∈ r.L, isOne e.flt = true → left e.flt.f0 = false := fun e he _ => HL0.out _ (HWf.out e he)
      have HEn := Aside0.mk (lv_end (o := o) hend)
      have HWd := Aside0.mk (show ∀ i, wordL (outE o r.L) i = wordL (Lv r.L o left) i from fun i => by
        rw [outE_word, lv_word]
        by_cases h : left i = true
        · rw [if_pos h]
          have : wordL r.L i = [] := by
            unfold wordL
            refine List.filter_eq_nil_iff.2 (fun e he h9 => ?_)
            have h10 : e.flt.f0 = i := by
              have := (Bool.and_eq_true _ _ ▸ h9).2
              simpa using this
            have h11 := HL0.out _ (HWf.out e he)
            rw [h10, h] at h11
            cases h11
          rw [this]
          rfl
        · rw [if_neg h])
      have hq := HQ.out.1
      have c1 := hq.c1
      have hrest : RowX kEt 59 wr v (restE r.L) := by
        have := hq.rest
        rwa [lv_rest] at this
      have HLl := Aside0.mk (show (Lv r.L o left).length ≤ 51200 from Nat.le_trans (List.length_filter_le _ _) OK.out.len)
      have HWo := Aside0.mk (reg_without (o := o) (Nat.le_trans (rest_len _) OK.out.len) hq.hb HQ.out.2.2.1 hrest (by have := HEn.out; omega) (by have := HLl.out; omega))
      clear hq hrest hend
      go_wp2_with fail
      refine HWo.out.mono ?_
      rintro e w5 ⟨v5, rfl, hx5, hn5, hg5, ht5⟩
      obtain ⟨A5, c5, rfl, _, _⟩ := hx5.reads
      have HX5 := Aside0.mk hx5
      have HN5 := Aside0.mk hn5
      have HG5 := Aside0.mk hg5
      have HT5 := Aside0.mk ht5
      have c3 : w5.cell? ⟨g, 3, none⟩ = some (.int .i64 (((Lv r.L o left).length : Int) - ((ownE o (restE r.L)).length : Int))) := (blk_cell hg5 3).trans rfl
      have c1' : w5.cell? ⟨g, 1, none⟩ = some v := (blk_cell hg5 1).trans rfl
      have z := fun j => blk_frozen hg5 j
      have hcn : ((Lv r.L o left).length : Int) - ((ownE o (restE r.L)).length : Int) = ((outE o r.L).length : Int) := by have := HEn.out; omega
      rw [hcn] at c3
      have HCn := Aside0.mk hcn
      have HSub := Aside0.mk (show wrap64 ((r.L.length : Int) - ((outE o r.L).length : Int)) = (((ownE o r.L).length : Nat) : Int) by
        have h1 := out_own_len r.L o
        have h2 := OK.out.len
        rw [w64_small _ (by omega) (by omega)]
        omega)
      clear hx5 hn5 hg5 ht5 hcn c1 HWo
      go_wp2_with fail
      go_ret
      have hR5 := (HQ.out.1.nums (Int.le_refl _) HG5.out HT5.out)
      rw [HCn.out] at hR5
      have hR6 := hR5.putRN (L' := outE o r.L) (by rw [outE_rest]; exact HX5.out) (fun k hk hS => by
        have h1 := HN5.out k hk
        have h2 := HQ.out.1.lt k hS
        omega) HWd.out
      have hts : Turn (fun k => k = g) w5 (w5.setCell ⟨g, 1, none⟩ (.slice A5 (outE o (restE r.L)).length c5)) := (Turn.refl (fun k => k = g) _).setCell (.inl rfl) _
      refine ⟨?_, _, ⟨mb, s, f, _, hR6⟩, ((HQ.out.2.2.2.1.trans HT5.out (fun k hk => .inl (hk ▸ H1.out.sg))).trans hts (fun k hk => .inl (hk ▸ H1.out.sg))), fun k hk => ?_⟩
      · first | rfl | (rw [← HSub.out]; rfl) | (show Ending.returned (.int .i64 (wrap64 ((r.L.length : Int) - ((outE o r.L).length : Int)))) = _; rw [HSub.out])
      · rcases hk.2 with h | h
        · exact (HQ.out.2.2.2.2 k h).imp id (fun h => h.1)
        · exact .inr (Nat.le_trans HQ.out.2.2.2.1.size (HN5.out k h))
    · intro i vi w2 cnt2 hi hl hv hrg2 hlt ht hs hen
      have HSr : Aside0 (∀ k, S' k → ¬ k = rr) := ⟨fun k hk => by
        rcases HQ.out.2.2.2.2 k hk with h | h
        · exact HN.out k h
        · exact h.2.2⟩
      have hR2 := HQ.out.1.turn ht HSr.out
      have H2 := Aside0.mk hR2
      have HB2 := Aside0.mk (ht.blk HQ.out.2.2.1 (fun e => HRr.out.1 e.symm))
      have HT2 := Aside0.mk (HQ.out.2.2.2.1.trans ht (fun k hk => .inr (hk ▸ HRr.out.2.2.1)))
      have HG2 := Aside0.mk hrg2
      have HLt := Aside0.mk (show cnt2 < wr.rangeLeft mb rr by rw [HQ.out.2.1.left_eq]; exact hlt)
      have HI := Aside0.mk (And.intro hi (And.intro hl hv))
      have hlen := lv_len r.L o left i hl
      have HLen := Aside0.mk hlen
      have hrow : RowX kEt 59 w2 vi (wordL r.L i) := by
        have := hR2.word i
        rw [hv, lv_word, if_pos hl] at this
        exact this
      have HRow := Aside0.mk hrow
      have HS' := Aside0.mk HQ.out.2.2.2.2
      have c0 := hR2.c0
      clear hR2 hrg2 hlt ht hs hi hl hv hlen hrow HQ HSr
      go_upto_region 8 with (fail)
      have HLl := Aside0.mk (show (Lv r.L o left).length ≤ 51200 from Nat.le_trans (List.length_filter_le _ _) OK.out.len)
      refine start_ (n := 10) (S := fun w' => w'.cell? ⟨g, 0, none⟩ = some (.map (some mb))) (ds := [9]) #[false, false, false, false, false, false, false, false, false, false] (by kernel_rfl) rfl rfl (c0) (fun hHeld => ?_)
      refine pure_ (i := 0) (N := some 26) (v := ?_) (a' := ?_) #[true, false, false, false, false, false, false, false, false, false] rfl rfl (by kernel_rfl) (fun _ _ _ h => h) (Or.inl ⟨by rfl, ?_⟩) ?_ ?_
      rotate_left
      · intro w'
        go_simp
        with_reducible rfl
      rotate_left
      · simp only [Act.put, List.setIfInBounds_toArray, List.set_cons_zero, List.set_cons_succ, i64_w, i32_w]
        rfl
      refine pure_ (i := 1) (N := some 27) (v := ?_) (a' := ?_) #[true, true, false, false, false, false, false, false, false, false] rfl rfl (by kernel_rfl) (fun _ _ _ h => h) (Or.inl ⟨by rfl, ?_⟩) ?_ ?_
      rotate_left
      · intro w'
        go_simp
        with_reducible rfl
      rotate_left
      · simp only [Act.put, List.setIfInBounds_toArray, List.set_cons_zero, List.set_cons_succ, i64_w, i32_w]
        rfl
      refine pure_ (i := 2) (N := some 28) (v := ?_) (a' := ?_) #[true, true, true, false, false, false, false, false, false, false] rfl rfl (by kernel_rfl) (fun _ _ _ h => h) (Or.inl ⟨by rfl, ?_⟩) ?_ ?_
      rotate_left
      · intro w'
        go_simp
        with_reducible rfl
      rotate_left
      · simp only [Act.put, List.setIfInBounds_toArray, List.set_cons_zero, List.set_cons_succ, i64_w, i32_w]
        rfl
      refine pure_ (i := 4) (N := some 30) (v := ?_) (a' := ?_) #[true, true, true, false, true, false, false, false, false, false] rfl rfl (by kernel_rfl) (fun _ _ _ h => h) (Or.inl ⟨by rfl, ?_⟩) ?_ ?_
      rotate_left
      · intro w'
        go_simp
        with_reducible rfl
      rotate_left
      · simp only [Act.put, List.setIfInBounds_toArray, List.set_cons_zero, List.set_cons_succ, i64_w, i32_w]
        rfl
      refine pure_ (i := 5) (N := some 31) (v := ?_) (a' := ?_) #[true, true, true, false, true, true, false, false, false, false] rfl rfl (by kernel_rfl) (fun _ _ _ h => h) (Or.inl ⟨by rfl, ?_⟩) ?_ ?_
      rotate_left
      · intro w'
        go_simp
        with_reducible rfl
      rotate_left
      · simp only [Act.put, List.setIfInBounds_toArray, List.set_cons_zero, List.set_cons_succ, i64_w, i32_w]
        rfl
      refine pure_ (i := 6) (N := some 32) (v := ?_) (a' := ?_) #[true, true, true, false, true, true, true, false, false, false] rfl rfl (by kernel_rfl) (fun _ _ _ h => h) (Or.inl ⟨by rfl, ?_⟩) ?_ ?_
      rotate_left
      · intro w'
        go_simp
        with_reducible rfl
      rotate_left
      · simp only [Act.put, List.setIfInBounds_toArray, List.set_cons_zero, List.set_cons_succ, i64_w, i32_w]
        rfl
      refine pure_ (i := 7) (N := some 33) (v := ?_) (a' := ?_) #[true, true, true, false, true, true, true, true, false, false] rfl rfl (by kernel_rfl) (fun _ _ _ h => h) (Or.inl ⟨by rfl, ?_⟩) ?_ ?_
      rotate_left
      · intro w'
        go_simp
        with_reducible rfl
      rotate_left
      · simp only [Act.put, List.setIfInBounds_toArray, List.set_cons_zero, List.set_cons_succ, i64_w, i32_w]
        rfl
      refine take_ (i := 3) (N := some 29) (v := ?_) (a' := ?_) #[true, true, true, true, true, true, true, true, false, false] rfl rfl (by kernel_rfl) (fun _ _ _ h => h) (Or.inl ⟨by rfl, ?_⟩) hHeld ?_ ?_
      rotate_left
      · intro w' s0
        go_simp
        with_reducible rfl
      rotate_left
      · simp only [Act.put, List.setIfInBounds_toArray, List.set_cons_zero, List.set_cons_succ, i64_w, i32_w]
        rfl
      refine one_ (i := 8) (N := some 34) #[true, true, true, true, true, true, true, true, true, false] rfl rfl (by kernel_rfl) (by decide) (fun K hK => ?_)
      refine goes_ Try.func24 (by kernel_rfl) rfl #[.pointer (some ⟨g, 0, none⟩), vi, .func (.func 23) #[] #[.pointer (some ⟨B, 0, none⟩)]] (by rfl) rfl rfl (by first | (simp only [List.map_toArray, List.map_cons, List.map_nil]; done) | (simp only [List.map_toArray, List.map_cons, List.map_nil]; rfl)) ?_
      with_reducible refine (reg_without (w := w2.drew) (o := o) (L := wordL r.L i) (Nat.le_trans (word_len _ _) OK.out.len) H2.out.hb HB2.out (HRow.out.keep (fun _ _ => rfl)) (by have := HLen.out; omega) (by have := HLl.out; omega)).mono ?_
      rintro e w3 ⟨v1, rfl, hx1, hn1, hg1, ht1⟩
      refine ⟨_, rfl, ?_⟩
      have hm3 := HG2.out.turn (w1 := w3) (S := fun k => k = g) (((Turn.refl _ w2).drew).then_ ht1) H2.out.gm HRr.out.2.2.2
      refine hK.out _ _ (((blk_cell hg1 0).trans rfl)) (fun hHeld => ?_)
      clear hK K
      refine norm_ (a' := ?_) ?_ ?_
      rotate_left
      · show Act.put _ (some 34) _ = _
        simp only [Act.put, List.setIfInBounds_toArray, List.set_cons_zero, List.set_cons_succ, i64_w, i32_w]
        rfl
      refine last_ (i := 9) (N := none) #[true, true, true, true, true, true, true, true, true, true] rfl rfl (by kernel_rfl) (by decide) (fun K hK => ?_)
      obtain ⟨w4, hrun, hG4, hT4⟩ := RangeZ.store Try.underlying22 Try.underlying54 hm3 (by have := H2.out.hs; have := OK.out.s1; unfold maxLen; omega) HI.out.1 HI.out.2.2 v1
      refine skip_ (w1 := w4) (by rfl) rfl ?_ ?_
      · go_simp
      refine hK.out _ _ ?_
      clear hK K
      refine done_ (by kernel_rfl) ?_
      have htg : Turn (fun k => k = g) w2 w3 := ((Turn.refl _ w2).drew).then_ ht1
      have htm : Turn (fun k => k = mb) w3 w4 := (Turn.refl _ w3).map hT4 (.inl rfl)
      have hR3 := H2.out.nums (Int.le_refl _) hg1 htg
      have hli : (fun j => left j && !(j == i)) i = false := by simp
      have hnS : ∀ k, v1.ownBlock = some k → ¬ S' k := fun k hk hS => by
        have h1 : w2.heap.size ≤ k := hn1 k hk
        have h2 := H2.out.lt k hS
        omega
      have hR4 := hR3.putN (L' := Lv r.L o (fun j => left j && !(j == i))) (id := i) (v1 := v1) (by rw [lv_word, if_neg (by simp)]; exact hx1) hnS hG4.map htm H2.out.hs (fun i' hne => by
        have h9 : (i' == i) = false := beq_eq_false_iff_ne.mpr hne
        rw [lv_word, lv_word]
        simp [h9]) (by rw [lv_rest, lv_rest])
      have hcn : ((Lv r.L o left).length : Int) - ((ownE o (wordL r.L i)).length : Int) = ((Lv r.L o (fun j => left j && !(j == i))).length : Int) := by have := HLen.out; omega
      rw [hcn] at hR4
      have HR4 := Aside0.mk hR4
      have HG4 := Aside0.mk hG4
      have HB4 := Aside0.mk (htm.blk (htg.blk HB2.out (fun e => HBs.out.1 g H1.out.sg e.symm)) (fun e => HBs.out.1 mb H1.out.sm e.symm))
      have HT4 := Aside0.mk ((HT2.out.trans htg (fun k hk => .inl (hk ▸ H1.out.sg))).trans htm (fun k hk => .inl (hk ▸ H1.out.sm)))
      have HN1 := Aside0.mk (show ∀ k, v1.ownBlock = some k → w.heap.size ≤ k ∧ k ≠ B ∧ k ≠ rr from fun k hk => by
        have h1 : w2.heap.size ≤ k := hn1 k hk
        have h2 := HT2.out.size
        have h3 := blk_lt HB2.out
        have h4 := HG2.out.lt
        exact ⟨by omega, fun e => by omega, fun e => by omega⟩)
      clear hHeld
      clear hrun hG4 hT4 hm3 ht1 hg1 hn1 hx1 htg htm hR3 hR4 hcn hli hnS c0 hen
      go_wp2_with fail
      refine ⟨⟨_, _, cnt2, _, ⟨HR4.out, HG4.out, HB4.out, HT4.out, fun k hk => ?_⟩⟩, by rw [HG4.out.left_eq]; exact HLt.out⟩
      rcases hk.2 with h | h
      · exact HS'.out k h
      · exact .inr (HN1.out k h)
end Go.Proofs.Ytaninnkhdhpcgaa.P
