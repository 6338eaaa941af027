/- A row of entries put in the order in which they came, by the library's sort and the register's own closure; no conditions beyond small numbers. -/
import Derived.Test.YtaninnkhdhpcgaaGRegA
import Derived.Test.YtaninnkhdhpcgaaGSort
import Derived.Shelf.SlSortCmp.NoneTotal
namespace Go.Proofs.Ytaninnkhdhpcgaa.P
open Go.Shelf Go.RowKit Go.Lib Go.Sort Go.Proofs.YtaninnkhdhpcgaaW.PrintWords Go.Proofs.YtaninnkhdhpcgaaW.PrintLast Go.Proofs.YtaninnkhdhpcgaaW.PrintMore
set_option linter.unusedVariables false
set_option linter.unusedSimpArgs false

def zEn : Ent := ⟨0, z24, 0⟩
/-- An entry that came as the so-and-so-manyth. -/
abbrev EB := { e : Ent // 0 ≤ e.since ∧ e.since ≤ 1125899906842624 }
instance : Inhabited EB := ⟨⟨zEn, by decide⟩⟩
def encB (x : EB) : List Value := etC x.1
def cfB (x y : EB) : Int := x.1.since - y.1.since
theorem swoB : SWO (ltOf cfB) where
  irrefl x := decide_eq_false (by unfold cfB; omega)
  trans x y z h1 h2 := by
    have a := of_decide_eq_true h1
    have b := of_decide_eq_true h2
    unfold cfB at a b
    exact decide_eq_true (by unfold cfB; omega)
  ntrans x y z h1 h2 := by
    have a := of_decide_eq_false h1
    have b := of_decide_eq_false h2
    unfold cfB at a b
    exact decide_eq_false (by unfold cfB; omega)
theorem exB : ∀ xs : List Ent, (∀ e ∈ xs, 0 ≤ e.since ∧ e.since ≤ 1125899906842624) → ∃ ds : List EB, ds.map (·.1) = xs
  | [], _ => ⟨[], rfl⟩
  | a :: r, h => by
    obtain ⟨ds, hd⟩ := exB r (fun e he => h e (List.mem_cons_of_mem _ he))
    exact ⟨⟨a, h a List.mem_cons_self⟩ :: ds, by simp [hd]⟩
set_option maxHeartbeats 4000000 in
set_option maxRecDepth 100000 in
theorem cmp_calls (x y : EB) (W : World) : Calls Try.prog 34 #[.agg #[.int .i64 x.1.owner, .int .u32 x.1.flt.f0, .int .u32 x.1.flt.f1, .bool x.1.flt.f2, .int .i64 x.1.since], .agg #[.int .i64 y.1.owner, .int .u32 y.1.flt.f0, .int .u32 y.1.flt.f1, .bool y.1.flt.f2, .int .i64 y.1.since]] W fun e w' => e = .returned (.int .i64 (cfB x y)) ∧ ∃ q os', w' = grow (W.drewN q) os' := by
  have hw : wrap64 (x.1.since - y.1.since) = x.1.since - y.1.since := w64_small _ (by have := x.2; have := y.2; omega) (by have := x.2; have := y.2; omega)
  unfold cfB
  go_enter Try.func34, Try.ntmps34
  go_wp2_with fail
  go_ret
  exact ⟨rfl, 0, _, by rw [alloc_eq_grow, alloc_eq_grow, grow_grow]; rfl⟩
theorem cmpLays (blk off size : Nat) (w : World) : CmpLays Try.prog 34 #[] encB 5 cfB blk off size w := fun _ _ _ _ x y => cmp_calls x y _
theorem holds_of_row {w : World} {b : Nat} {ds : List EB} (h : Kd.C kEt w (some ⟨b, 0, none⟩) ds.length (ds.map (·.1))) (hf : ∀ j, w.frozen? ⟨b, j, none⟩ = false) : HoldsK encB 5 w b 0 ds.toArray := by
  intro j hj
  rw [size_flatK] at hj
  rw [get_flatK _ _ _ _ hj]
  refine ⟨?_, hf _⟩
  have hj' : j < ds.length * 5 := by simpa using hj
  have hi : j / 5 < ds.length := by omega
  have hg : (ds.map (·.1))[j / 5]? = some ds[j / 5].1 := by
    rw [List.getElem?_map, List.getElem?_eq_getElem hi]
    rfl
  obtain ⟨ad, hA, h0, h1, h2, h3, h4⟩ := at_Et h (j / 5) hg
  cases hA
  have ha : ds.toArray[j / 5]! = ds[j / 5] := by
    rw [getElem!_pos ds.toArray (j / 5) (by simpa using hi)]
    rfl
  rw [ha]
  rw [add_plain] at h0 h1 h2 h3 h4
  have hc : j % 5 = 0 ∨ j % 5 = 1 ∨ j % 5 = 2 ∨ j % 5 = 3 ∨ j % 5 = 4 := by omega
  rcases hc with hc | hc | hc | hc | hc
  · rw [hc, show 0 + j = j / 5 * 5 by omega]
    exact h0
  · rw [hc, show 0 + j = j / 5 * 5 + 1 by omega]
    exact h1
  · rw [hc, show 0 + j = j / 5 * 5 + 2 by omega]
    exact h2
  · rw [hc, show 0 + j = j / 5 * 5 + 3 by omega]
    exact h3
  · rw [hc, show 0 + j = j / 5 * 5 + 4 by omega]
    exact h4
theorem row_of_holds {w : World} {b : Nat} {d : Array EB} (h : HoldsK encB 5 w b 0 d) (hl : d.size ≤ 9223372036854775807) : Kd.C kEt w (some ⟨b, 0, none⟩) d.size (d.toList.map (·.1)) := by
  refine ⟨by simp, hl, fun _ => ⟨⟨b, 0, none⟩, rfl, fun j p hp => ?_⟩⟩
  rw [List.getElem?_map] at hp
  cases hx : d.toList[j]? with
  | none => rw [hx] at hp; cases hp
  | some x =>
    rw [hx] at hp
    obtain rfl := Option.some.inj hp
    have hj : j < d.size := by
      have := (List.getElem?_eq_some_iff.1 hx).1
      simpa using this
    have hg : d[j]! = x := by
      rw [getElem!_pos d j hj]
      have := (List.getElem?_eq_some_iff.1 hx).2
      simpa using this
    refine ⟨_, rfl, kEt_mk _ _, fun i u hu => ?_⟩
    have hi : i < 5 := (List.getElem?_eq_some_iff.1 hu).1
    have := (h.cell hj hi).1
    rw [hg] at this
    rw [add_plain]
    show w.cell? ⟨b, j * 5 + i, none⟩ = some u
    rw [show j * 5 + i = 0 + j * 5 + i by omega, this]
    obtain ⟨hl2, hu2⟩ := List.getElem?_eq_some_iff.1 hu
    have hc : i = 0 ∨ i = 1 ∨ i = 2 ∨ i = 3 ∨ i = 4 := by omega
    rcases hc with rfl | rfl | rfl | rfl | rfl
    all_goals
      rw [← hu2]
      rfl
theorem Turn.sortK (w : World) (b n : Nat) (d : Array EB) (os : Array Obj) (hb : b < w.heap.size) : Turn (fun k => k = b) w (sortWorldK encB 5 w b 0 n d os) := by
  refine ⟨rfl, rfl, rfl, ?_, fun k hk hn => ?_⟩
  · show w.heap.size ≤ (grow (putRowK encB 5 (Sort.ahead w n) b 0 d) os).heap.size
    rw [size_grow]
    unfold putRowK
    rw [size_putRow]
    show w.heap.size ≤ w.heap.size + _
    omega
  · unfold sortWorldK
    rw [heap_grow_old _ _ (by unfold putRowK; rw [size_putRow]; exact hk)]
    unfold putRowK putRow mapBlock
    simp only
    rw [Array.getElem?_modify, if_neg (fun e => hn e.symm)]
    rfl
theorem sort_calls {w : World} {v : Value} {xs : List Ent} (h : RowX kEt 59 w v xs) (hb : ∀ e ∈ xs, 0 ≤ e.since ∧ e.since ≤ 1125899906842624) (hl : xs.length ≤ 4611686018427387903) :
    Calls Try.prog 33 #[v, .func (.func 34) #[] #[]] w fun e w' => e = .returned (.tuple #[]) ∧ ∃ A c ys b, v = .slice A xs.length c ∧ (0 < xs.length → A = some ⟨b, 0, none⟩) ∧ ys.Perm xs ∧ ys.Pairwise (fun a b => a.since ≤ b.since) ∧ Kd.C kEt w' A xs.length ys ∧ Turn (fun k => v.ownBlock = some k) w w' := by
  obtain ⟨A, c, rfl, hc, hC⟩ := h.reads
  cases xs with
  | nil =>
    refine (AnyF.slices_SortFunc_none (P := Try.prog) sortAl A c _ w).mono ?_
    rintro e w' ⟨rfl, rfl⟩
    exact ⟨rfl, A, c, [], 0, rfl, fun h => by simp at h, List.Perm.refl _, List.Pairwise.nil, hC, Turn.refl _ _⟩
  | cons x r =>
    obtain ⟨ad, rfl, _⟩ := at_Et hC 0 (x := x) rfl
    obtain ⟨b, rfl⟩ := Kd.R_head h
    obtain ⟨ds, hds⟩ := exB (x :: r) hb
    have hn : ds.length = (x :: r).length := by rw [← hds]; simp
    have hbl : ((Value.slice (some ⟨b, 0, none⟩) (x :: r).length c).ownBlock = some b) := rfl
    obtain ⟨cells, hcl⟩ := h.typed hbl
    have hlt := h.lt hbl
    rw [← hn] at hC
    rw [← hds] at hC
    have hH := holds_of_row hC (fun j => blk_frozen hcl j)
    have eg : ∀ args w, (callFunc 34 args).run Try.prog w = .ok (.enter 34 args) w := enters_of Try.func34 (by kernel_rfl) rfl
    have hcon := AnyQ.slices_SortFunc sortAl 5 Try.isAgg59 Try.sizeOf59 encB (fun _ => rfl) (fun x v hv => by simp [encB, etC] at hv; rcases hv with rfl | rfl | rfl | rfl | rfl <;> rfl) cfB swoB 34 #[] b 0 c ds.toArray w eg (cmpLays b 0 _ w) hH hlt (by simp; omega)
    rw [show ds.toArray.size = (x :: r).length by simp [hn]] at hcon
    refine hcon.mono ?_
    rintro e w' ⟨rfl, d', n, os, hp, hs, rfl⟩
    obtain ⟨hps, _, hpp⟩ := hp
    have hz : d'.size = (x :: r).length := by rw [hps]; simp [hn]
    have hperm : d'.toList.Perm ds := by
      have e1 : d'.extract 0 (x :: r).length = d' := by rw [← hz]; simp
      have e2 : ds.toArray.extract 0 (x :: r).length = ds.toArray := by rw [← hn]; simp
      rw [e1, e2] at hpp
      exact hpp
    refine ⟨rfl, _, c, d'.toList.map (·.1), b, rfl, fun _ => rfl, ?_, ?_, ?_, (Turn.sortK w b n d' os hlt).mono (fun k hk => by rw [hk]; rfl)⟩
    · rw [← hds]
      exact hperm.map _
    · rw [List.pairwise_map, List.pairwise_iff_getElem]
      intro i j hi hj hij
      have hi' : i < d'.size := by simpa using hi
      have hj' : j < d'.size := by simpa using hj
      have := hs i j (Nat.zero_le _) hij (by omega)
      rw [getElem!_pos d' i hi', getElem!_pos d' j hj'] at this
      unfold ltOf cfB at this
      have := of_decide_eq_false this
      show (d'.toList[i]).1.since ≤ (d'.toList[j]).1.since
      rw [Array.getElem_toList, Array.getElem_toList]
      omega
    · have hH2 : HoldsK encB 5 (sortWorldK encB 5 w b 0 n d' os) b 0 d' := holdsK_sortWorldK_c encB 5 w b 0 ds.toArray d' n os hH hlt hps
      have := row_of_holds hH2 (by omega)
      rw [hz] at this
      exact this
end Go.Proofs.Ytaninnkhdhpcgaa.P
