/- Objects of the call's own that span several blocks: what a call turns, rows by their own block, maps keyed by whole numbers as functions; no conditions. -/
import Derived.Test.YtaninnkhdhpcgaaWTab
import Derived.Maps.OwnSet
namespace Go.Proofs.Ytaninnkhdhpcgaa.P
open Go.RowKit Go.Maps Go.ChangeMaps Go.Proofs.YtaninnkhdhpcgaaW.PrintWords Go.Proofs.YtaninnkhdhpcgaaW.PrintLast
open Go.WideElems (Fit rg)
set_option linter.unusedVariables false

theorem alloc_size (w : World) (o : Obj) : (w.alloc o).heap.size = w.heap.size + 1 := World.size_alloc _ _
/-- w' is w, but for the blocks of S and what is new. -/
structure Turn (S : Nat → Prop) (w w' : World) : Prop where
  os : w'.os = w.os
  tape : w'.tape = w.tape
  output : w'.output = w.output
  size : w.heap.size ≤ w'.heap.size
  block : ∀ k, k < w.heap.size → ¬ S k → w'.heap[k]? = w.heap[k]?
section
variable {S S2 : Nat → Prop} {w w0 w1 w2 : World}
theorem Turn.refl (S : Nat → Prop) (w : World) : Turn S w w := ⟨rfl, rfl, rfl, Nat.le_refl _, fun _ _ _ => rfl⟩
theorem Turn.of_below (h : Below w.heap.size w w1) (S : Nat → Prop) : Turn S w w1 := ⟨h.os, h.tape, h.output, h.size, fun k hk _ => h.block k hk⟩
theorem Turn.to_below (h : Turn (fun _ => False) w w1) : Below w.heap.size w w1 := ⟨h.os, h.tape, h.output, h.size, fun k hk => h.block k hk (fun x => x)⟩
theorem Turn.mono (h : Turn S w w1) (hs : ∀ k, S k → S2 k) : Turn S2 w w1 := ⟨h.os, h.tape, h.output, h.size, fun k hk hn => h.block k hk (fun x => hn (hs k x))⟩
/-- What is new does not count. -/
theorem Turn.shrink (h : Turn S w w1) (hs : ∀ k, S k → w.heap.size ≤ k) : Turn (fun _ => False) w w1 := ⟨h.os, h.tape, h.output, h.size, fun k hk _ => h.block k hk (fun x => by have := hs k x; omega)⟩
theorem Turn.trans (h : Turn S w w1) (k : Turn S2 w1 w2) (hs : ∀ k, S2 k → S k ∨ w.heap.size ≤ k) : Turn S w w2 :=
  ⟨k.os.trans h.os, k.tape.trans h.tape, k.output.trans h.output, Nat.le_trans h.size k.size, fun i hi hn => (k.block i (Nat.lt_of_lt_of_le hi h.size) (fun h2 => (hs i h2).elim hn (fun h3 => by omega))).trans (h.block i hi hn)⟩
theorem Turn.then_ (h : Turn S w w1) (k : Turn S w1 w2) : Turn S w w2 := h.trans k (fun _ x => .inl x)
theorem Turn.below (h : Turn S w w1) (hB : Below w0.heap.size w0 w) (hS : ∀ k, S k → w0.heap.size ≤ k) : Below w0.heap.size w0 w1 :=
  ⟨h.os.trans hB.os, h.tape.trans hB.tape, h.output.trans hB.output, Nat.le_trans hB.size h.size, fun k hk => (h.block k (Nat.lt_of_lt_of_le hk hB.size) (fun x => by have := hS k x; omega)).trans (hB.block k hk)⟩
theorem Turn.step (h : Turn S w w1) (k : Below w1.heap.size w1 w2) : Turn S w w2 := h.then_ (.of_below k S)
theorem Turn.alloc (h : Turn S w w1) (o : Obj) : Turn S w (w1.alloc o) := h.step (below_alloc (Below.refl _ _) o)
theorem Turn.drew (h : Turn S w w1) : Turn S w w1.drew := ⟨h.os, h.tape, h.output, h.size, h.block⟩
theorem Turn.drewN (h : Turn S w w1) (m : Nat) : Turn S w (w1.drewN m) := ⟨h.os, h.tape, h.output, h.size, h.block⟩
theorem Turn.setCell (h : Turn S w w1) {p : Addr} (hp : S p.block ∨ w.heap.size ≤ p.block) (u : Value) : Turn S w (w1.setCell p u) :=
  h.trans (S2 := fun k => k = p.block) ⟨rfl, rfl, rfl, by simp [World.setCell], fun i _ hn => Below.heap_setCell w1 p u i hn⟩ (fun k hk => by rw [hk]; exact hp)
theorem Turn.grown {row : Option Nat} (h : Turn S w w1) (hg : w1.grownBy w2 row) (hr : ∀ k, row = some k → S k ∨ w.heap.size ≤ k) : Turn S w w2 :=
  h.trans (S2 := fun k => row = some k) ⟨hg.os, hg.tape, hg.output, hg.size, fun i hi hn => hg.block i hi (fun he => hn he.symm)⟩ hr
theorem Turn.map {b : Nat} (h : Turn S w w1) (ht : w1.mapTurned w2 b) (hb : S b ∨ w.heap.size ≤ b) : Turn S w w2 := h.grown ht.grown (fun k hk => by cases hk; exact hb)
theorem Turn.blk {g : Nat} {o : Obj} (h : Turn S w w1) (hb : w.heap[g]? = some o) (hn : ¬ S g) : w1.heap[g]? = some o := (h.block g (blk_lt hb) hn).trans hb
theorem Turn.cell {a : Addr} {v : Value} (h : Turn S w w1) (hc : w.cell? a = some v) (hn : ¬ S a.block) : w1.cell? a = some v := by
  have := h.block a.block (World.block_lt_of_cell? w a hc) hn
  simpa [World.cell?, this] using hc
theorem Turn.came {α : Type} {d : Kd α} {A : Option Addr} {n : Nat} {xs : List α} (hC : d.C w0 A n xs) (hB : Below w0.heap.size w0 w) : d.C w A n xs := Kd.C_below hC hB
end

theorem wp_world {P : Program} {s : Code} {Q : Exit → Act → World → Prop} {a : Act} {W : World} (R : World → Prop) (h1 : R W) (h2 : ∀ W', R W' → s.wp P Q a W') : s.wp P Q a W := h2 W h1

theorem results_ct1 {P : Program} {fn : Func} {p q : Tmp} {ty : TypeId} (h : fn.results = #[.cell p ty, .tmp q]) (tmps : Array Value) (w : World) (g : Nat) (t : TypeId) (cs : Array Value) (fr : Nat × Nat) (d : TypeDesc)
    (hp : tmps.getD p undef = .pointer (some ⟨g, 0, none⟩)) (hg : w.heap[g]? = some (.cells cs t fr))
    (hu : P.underlying ty = some d) (hd : (match d with | .struct _ | .array _ _ => true | _ => false) = true) (hi : (P.info? ty).map (·.size) = some cs.size) :
    (results fn tmps).run P w = .ok (.tuple #[.agg cs, tmps.getD q undef]) w := by
  have hp' : tmps[p]?.getD undef = .pointer (some ⟨g, 0, none⟩) := by simpa using hp
  simp [results, h, hp', asAddr, run_loadVar_row w g t ty cs fr d hg hu hd hi]

/-! ### rows by their own block -/
/-- v is nil, or a row of the call's own that holds xs. -/
def RowX {α : Type} (d : Kd α) (e : Nat) (w : World) (v : Value) (xs : List α) : Prop := d.R e w 0 (fun k => v.ownBlock = some k) v xs
section
variable {α : Type} {d : Kd α} {e : Nat} {w w1 : World} {base : Nat} {ok S : Nat → Prop} {v : Value} {xs : List α}
theorem RowX.of_R (hE : d.E = []) (h : d.R e w base ok v xs) : RowX d e w v xs := by
  obtain ⟨h0, inner, ho, hr⟩ := Kd.R_lower h (Nat.zero_le _)
  refine ⟨fun k hk => hk, inner, ho, hr.imp_ (fun _ _ hp => d.M_mono (fun k hk => ?_) (d.M_bound hp))⟩
  obtain ⟨_, _, _, q, hq, _⟩ := hk
  rw [hE] at hq
  cases hq
theorem RowX.R (h : RowX d e w v xs) (hok : ∀ k, v.ownBlock = some k → ok k) : d.R e w 0 ok v xs := Kd.R_mono h hok
theorem RowX.lt (h : RowX d e w v xs) {k : Nat} (hk : v.ownBlock = some k) : k < w.heap.size := by
  obtain ⟨_, inner, ho, _⟩ := h
  exact own_lt ho k hk
theorem RowX.typed (h : RowX d e w v xs) {k : Nat} (hk : v.ownBlock = some k) : ∃ cells, w.heap[k]? = some (.cells cells e (0, 0)) := by
  obtain ⟨_, inner, ho, _⟩ := h
  exact own_typed ho k hk
theorem RowX.keep (h : RowX d e w v xs) (hm : ∀ k, v.ownBlock = some k → w1.heap[k]? = w.heap[k]?) : RowX d e w1 v xs := Kd.R_move h hm
theorem RowX.turn (h : RowX d e w v xs) (ht : Turn S w w1) (hn : ∀ k, v.ownBlock = some k → ¬ S k) : RowX d e w1 v xs := h.keep (fun k hk => ht.block k (h.lt hk) (hn k hk))
theorem RowX.nil (d : Kd α) (e : Nat) (w : World) : RowX d e w (.slice none 0 0) [] := Kd.R_nil d e w 0 _
theorem RowX.reads (h : RowX d e w v xs) : ∃ A c, v = .slice A xs.length c ∧ xs.length ≤ c ∧ d.C w A xs.length xs := Kd.R_reads h
theorem RowX.ne_cells (h : RowX d e w v xs) {g t : Nat} {cells : Array Value} {fr : Nat × Nat} (hb : w.heap[g]? = some (.cells cells t fr)) (ht : e ≠ t) : v.ownBlock ≠ some g := by
  intro hk
  obtain ⟨cs, hc⟩ := h.typed hk
  rw [hb] at hc
  injection hc with hc
  injection hc with _ hc
  exact ht hc.symm
theorem RowX.ne_map (h : RowX d e w v xs) {g : Nat} {es : Array MapEntry} {cl : Nat} (hb : w.heap[g]? = some (.map es cl)) : v.ownBlock ≠ some g := by
  intro hk
  obtain ⟨cs, hc⟩ := h.typed hk
  rw [hb] at hc
  cases hc
end

/-! ### maps keyed by whole numbers -/
/-- An element stands for itself. -/
def Rv (v : Value) : Option (DataW Value × List MemPlace) := some (.held v, [])
def setM (f : Int → Option Value) (i : Int) (v : Option Value) (j : Int) : Option Value := if j = i then v else f j
theorem setM_same (f : Int → Option Value) (i : Int) (v : Option Value) : setM f i v i = v := if_pos rfl
theorem setM_other (f : Int → Option Value) {i j : Int} (v : Option Value) (h : j ≠ i) : setM f i v j = f j := if_neg h
/-- Block b is a map of at most n entries: f i is what stands at i. -/
def MapI (P : Program) (kt : TypeId) (q : IntKind) (w : World) (b n : Nat) (f : Int → Option Value) : Prop :=
  ∃ D, w.ownsMap P kt Rv b n D ∧ ∀ i : Int, (Lit.int q i).wf = true → (∀ z, D.atKey (.int q i) (.held z) = .held ((f i).getD z)) ∧ Maps.has D (.int q i) = (f i).isSome
section
variable {P : Program} {kt : TypeId} {q : IntKind} {w w1 : World} {b n : Nat} {f : Int → Option Value} {S : Nat → Prop}
theorem MapI.made (w : World) (P : Program) (kt : TypeId) (q : IntKind) : MapI P kt q (w.alloc (.map #[] 0)) w.heap.size 0 (fun _ => none) :=
  ⟨_, World.ownsMap_made w P kt Rv, fun i _ => ⟨fun z => rfl, rfl⟩⟩
theorem MapI.block (h : MapI P kt q w b n f) : ∃ es cl, w.heap[b]? = some (.map es cl) := by
  obtain ⟨D, ⟨es, cl, hb, _⟩, _⟩ := h
  exact ⟨es, cl, hb⟩
theorem MapI.lt (h : MapI P kt q w b n f) : b < w.heap.size := by obtain ⟨es, cl, hb⟩ := h.block; exact blk_lt hb
theorem MapI.keep (h : MapI P kt q w b n f) (hb : w1.heap[b]? = w.heap[b]?) : MapI P kt q w1 b n f := by
  obtain ⟨D, ⟨es, cl, hb0, r⟩, hf⟩ := h
  exact ⟨D, ⟨es, cl, hb.trans hb0, r⟩, hf⟩
theorem MapI.turn (h : MapI P kt q w b n f) (ht : Turn S w w1) (hn : ¬ S b) : MapI P kt q w1 b n f := h.keep (ht.block b h.lt hn)
theorem MapI.mono {m : Nat} (h : MapI P kt q w b n f) (hm : n ≤ m) : MapI P kt q w b m f := by
  obtain ⟨D, hD, hf⟩ := h
  exact ⟨D, hD.mono hm, hf⟩
theorem MapI.ne_cells (h : MapI P kt q w b n f) {g t : Nat} {cells : Array Value} {fr : Nat × Nat} (hb : w.heap[g]? = some (.cells cells t fr)) : b ≠ g := by
  rintro rfl
  obtain ⟨es, cl, hb2⟩ := h.block
  rw [hb] at hb2
  cases hb2
variable {t e : TypeId} (hu : P.underlying kt = some (.int q)) (ht : P.underlying t = some (.map kt e))
include hu ht
theorem MapI.look (h : MapI P kt q w b n f) {z : Value} (hz : (zeroValue e).run P w = .ok z w) {i : Int} (hi : (Lit.int q i).wf = true) :
    (Instr.lookup t (.map (some b)) (.int q i) false).run P w = .ok ((f i).getD z) w := by
  obtain ⟨D, hD, hf⟩ := h
  obtain ⟨v, ps, hrun, hv⟩ := hD.lookup (int_keyed hu) ht hz (zd := .held z) (zp := []) rfl (keyOf_int_mk hu hi)
  rw [(hf i hi).1 z] at hv
  injection hv with hv
  injection hv with hv _
  injection hv with hv
  rw [hrun, hv]
theorem MapI.look_ok (h : MapI P kt q w b n f) {z : Value} (hz : (zeroValue e).run P w = .ok z w) {i : Int} (hi : (Lit.int q i).wf = true) :
    (Instr.lookup t (.map (some b)) (.int q i) true).run P w = .ok (.tuple #[(f i).getD z, .bool (f i).isSome]) w := by
  obtain ⟨D, hD, hf⟩ := h
  obtain ⟨v, ps, hrun, hv⟩ := hD.look_ok (int_keyed hu) ht hz (zd := .held z) (zp := []) rfl (keyOf_int_mk hu hi)
  rw [(hf i hi).1 z] at hv
  injection hv with hv
  injection hv with hv _
  injection hv with hv
  rw [hrun, hv, (hf i hi).2]
theorem MapI.store (h : MapI P kt q w b n f) (hn : n < maxLen) {i : Int} (hi : (Lit.int q i).wf = true) (v : Value) :
    ∃ w', (Instr.mapUpdate t (.map (some b)) (.int q i) v).run P w = .ok () w' ∧ MapI P kt q w' b (n + 1) (setM f i (some v)) ∧ w.mapTurned w' b := by
  obtain ⟨D, hD, hf⟩ := h
  obtain ⟨w', hrun, hD', hT⟩ := hD.store (int_keyed hu) ht hn (keyOf_int_mk hu hi) (d := .held v) (ps := []) (val := v) rfl
  refine ⟨w', hrun, ⟨_, hD', fun j hj => ?_⟩, hT⟩
  have hk : WideAt.IsKeyLit (.int q i) := (int_keyed hu).key (keyOf_int_mk hu hi)
  by_cases e : j = i
  · subst e
    refine ⟨fun z => ?_, ?_⟩
    · rw [atKey_put_same hD.isMap hk, setM_same]; rfl
    · rw [has_put_same hD.isMap hk, setM_same]; rfl
  · have hne : (Lit.int q j) ≠ (Lit.int q i) := fun h => e (by injection h)
    refine ⟨fun z => ?_, ?_⟩
    · rw [atKey_put_other hne, setM_other f _ e]; exact (hf j hj).1 z
    · rw [has_put_other hne, setM_other f _ e]; exact (hf j hj).2
theorem MapI.drop (h : MapI P kt q w b n f) {i : Int} (hi : (Lit.int q i).wf = true) (ty : TypeId) :
    ∃ w', (Builtin.delete_ #[t, kt] ty #[.map (some b), .int q i]).run P w = .ok (.tuple #[]) w' ∧ MapI P kt q w' b n (setM f i none) ∧ w.mapTurned w' b := by
  obtain ⟨D, hD, hf⟩ := h
  obtain ⟨w', hrun, hD', hT⟩ := hD.drop (int_keyed hu) ht (keyOf_int_mk hu hi) ty
  refine ⟨w', hrun, ⟨_, hD', fun j hj => ?_⟩, hT⟩
  by_cases e : j = i
  · subst e
    refine ⟨fun z => ?_, ?_⟩
    · rw [atKey_del_same, setM_same]; rfl
    · rw [has_del_same, setM_same]; rfl
  · have hne : (Lit.int q j) ≠ (Lit.int q i) := fun h => e (by injection h)
    refine ⟨fun z => ?_, ?_⟩
    · rw [atKey_del_other hne, setM_other f _ e]; exact (hf j hj).1 z
    · rw [has_del_other hne, setM_other f _ e]; exact (hf j hj).2
omit hu in
theorem MapI.clear (h : MapI P kt q w b n f) (ty : TypeId) :
    ∃ w', (Builtin.clear_ #[t] ty #[.map (some b)]).run P w = .ok (.tuple #[]) w' ∧ MapI P kt q w' b 0 (fun _ => none) ∧ w.mapTurned w' b := by
  obtain ⟨D, ⟨es, cl, hb, F, hs, hD⟩, hf⟩ := h
  refine ⟨setBlock w b (.map #[] cl), ?_, ⟨_, ⟨#[], cl, heap_setBlock_same hb _, ⟨by simp, Go.MapKept.stamped_empty cl, by simp⟩, Nat.le_refl _, rfl⟩, fun i _ => ⟨fun z => rfl, rfl⟩⟩, ⟨es, cl, #[], cl, hb, rfl⟩⟩
  simp [Builtin.clear_, run_underlying ht, MapKept.run_getObj_map hb, MapKept.run_setObj_map _ hb, Result.andThen]
  rfl
end
end Go.Proofs.Ytaninnkhdhpcgaa.P
