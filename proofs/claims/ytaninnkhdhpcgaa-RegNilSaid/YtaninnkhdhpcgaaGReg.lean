/- A register of entries: New, Len, Add; no conditions beyond small numbers. -/
import Derived.Test.YtaninnkhdhpcgaaGRange
import Derived.Test.YtaninnkhdhpcgaaGResults
import Derived.Test.YtaninnkhdhpcgaaGNum
import Derived.Test.YtaninnkhdhpcgaaGMeas
import Derived.Test.YtaninnkhdhpcgaaPregsingle
namespace Go.Proofs.Ytaninnkhdhpcgaa.P
open Go.RowKit Go.Maps Go.Proofs.YtaninnkhdhpcgaaW.PrintWords Go.Proofs.YtaninnkhdhpcgaaW.PrintLast Go.Proofs.YtaninnkhdhpcgaaW.PrintMore
set_option linter.unusedVariables false
set_option linter.unusedSimpArgs false

abbrev Flt := S24
structure Ent where
  owner : Int
  flt : Flt
  since : Int
def kEt : Kd Ent := Kd.iso (Kd.pair (Kd.int .i64) (Kd.pair k24 (Kd.int .i64))) (fun x : Ent => (x.owner, x.flt, x.since))
def etC (x : Ent) : List Value := [.int .i64 x.owner, .int .u32 x.flt.f0, .int .u32 x.flt.f1, .bool x.flt.f2, .int .i64 x.since]
theorem kEt_open {w : World} {x : Ent} {cs : List Value} (h : kEt.K w x cs) : cs = etC x := by
  obtain ⟨_, _, rfl, rfl, _, _, rfl, s1, rfl⟩ := h
  obtain rfl := k24_open s1
  exact rfl
theorem kEt_mk (w : World) (x : Ent) : kEt.K w x (etC x) := ⟨[.int .i64 x.owner], [.int .u32 x.flt.f0, .int .u32 x.flt.f1, .bool x.flt.f2, .int .i64 x.since], rfl, rfl, [.int .u32 x.flt.f0, .int .u32 x.flt.f1, .bool x.flt.f2], [.int .i64 x.since], rfl, k24_mk w x.flt, rfl⟩
theorem kEt_mkM (w : World) (base : Nat) (ok : Nat → Prop) (x : Ent) : kEt.M w base ok x (etC x) := ⟨[.int .i64 x.owner], [.int .u32 x.flt.f0, .int .u32 x.flt.f1, .bool x.flt.f2, .int .i64 x.since], rfl, rfl, [.int .u32 x.flt.f0, .int .u32 x.flt.f1, .bool x.flt.f2], [.int .i64 x.since], rfl, k24_mkM w base ok x.flt, rfl⟩
theorem kEtE : kEt.E = [] := rfl
theorem at_Et {w : World} {A : Option Addr} {n : Nat} {xs : List Ent} (h : Kd.C kEt w A n xs) (i : Nat) {x : Ent} (hx : xs[i]? = some x) : ∃ ad, A = some ad ∧ w.cell? (ad.add (i * 5)) = some (.int .i64 x.owner) ∧ w.cell? ⟨(ad.add (i * 5)).block, (ad.add (i * 5)).off + 1, none⟩ = some (.int .u32 x.flt.f0) ∧ w.cell? ⟨(ad.add (i * 5)).block, (ad.add (i * 5)).off + 2, none⟩ = some (.int .u32 x.flt.f1) ∧ w.cell? ⟨(ad.add (i * 5)).block, (ad.add (i * 5)).off + 3, none⟩ = some (.bool x.flt.f2) ∧ w.cell? ⟨(ad.add (i * 5)).block, (ad.add (i * 5)).off + 4, none⟩ = some (.int .i64 x.since) := by
  have hn : i < n := by have h1 := (List.getElem?_eq_some_iff.1 hx).1; have h2 : xs.length = n := h.1; omega
  obtain ⟨ad, c, e, _, hK, hc0⟩ := Kd.C_get h x (i : Int) (by omega) (by omega)
  have hc : ∀ j u, c[j]? = some u → w.cell? (ad.add (i * 5 + j)) = some u := hc0
  have hg : xs.getD (i : Int).toNat x = x := by rw [Int.toNat_natCast, List.getD_eq_getElem?_getD, hx]; rfl
  rw [hg] at hK
  obtain rfl := kEt_open hK
  exact ⟨ad, e, hc 0 _ rfl, by rw [← add_field _ _ 1 (by omega)]; exact hc 1 _ rfl, by rw [← add_field _ _ 2 (by omega)]; exact hc 2 _ rfl, by rw [← add_field _ _ 3 (by omega)]; exact hc 3 _ rfl, by rw [← add_field _ _ 4 (by omega)]; exact hc 4 _ rfl⟩
def fltV (f : Flt) : Value := .agg #[.int .u32 f.f0, .int .u32 f.f1, .bool f.f2]
def isOne (f : Flt) : Bool := decide (f.f1 = 4294967295) && !f.f2
theorem single_f (f : Flt) : reg_single.f f.f0 f.f1 f.f2 = some (isOne f) := by
  unfold reg_single.f isOne
  by_cases h : f.f1 = 4294967295
  · rw [if_pos h, decide_eq_true h]
    rfl
  · rw [if_neg h, decide_eq_false h]
    rfl
def sl0 (v : Option Value) : Value := v.getD (.slice none 0 0)
def wordL (L : List Ent) (i : Int) : List Ent := L.filter (fun e => isOne e.flt && e.flt.f0 == i)
def restE (L : List Ent) : List Ent := L.filter (fun e => !isOne e.flt)
structure RGv where
  since : Int
  L : List Ent
structure RegI (w : World) (g mb s : Nat) (f : Int → Option Value) (v : Value) (L : List Ent) (sn mn : Int) (S : Nat → Prop) : Prop where
  hb : w.heap[g]? = some (.cells #[.map (some mb), v, .int .i64 sn, .int .i64 mn] 57 (0, 0))
  map : MapZ Try.prog 22 .u32 w mb s f
  hs : (s : Int) ≤ sn
  word : ∀ i, RowX kEt 59 w (sl0 (f i)) (wordL L i)
  rest : RowX kEt 59 w v (restE L)
  apart : ∀ i j k, (sl0 (f i)).ownBlock = some k → (sl0 (f j)).ownBlock = some k → i = j
  ra : ∀ i k, (sl0 (f i)).ownBlock = some k → v.ownBlock ≠ some k
  sg : S g
  sm : S mb
  sr : ∀ i k, (sl0 (f i)).ownBlock = some k → S k
  sv : ∀ k, v.ownBlock = some k → S k
  lt : ∀ k, S k → k < w.heap.size
/-- A register at g, of whose blocks are S. -/
def IsReg (g : Nat) (r : RGv) (w : World) (S : Nat → Prop) : Prop := ∃ mb s f v, RegI w g mb s f v r.L r.since r.L.length S
structure ROk (r : RGv) : Prop where
  s0 : 0 ≤ r.since
  s1 : r.since ≤ 1125899906842624
  len : r.L.length ≤ 51200
  order : r.L.Pairwise (fun a b => a.since < b.since)
  since : ∀ e ∈ r.L, 0 ≤ e.since ∧ e.since < r.since
def addR (r : RGv) (owner : Int) (f : Flt) : RGv := ⟨r.since + 1, r.L ++ [⟨owner, f, r.since⟩]⟩
theorem ROk.r0 : ROk ⟨0, []⟩ := ⟨by decide, by decide, by decide, List.Pairwise.nil, fun e he => (by cases he)⟩
theorem ROk.add {r : RGv} (h : ROk r) (owner : Int) (f : Flt) (hl : r.L.length < 51200) (hs : r.since < 1125899906842624) : ROk (addR r owner f) := by
  have := h.s0
  refine ⟨by show 0 ≤ r.since + 1; omega, by show r.since + 1 ≤ _; omega, ?_, ?_, fun e he => ?_⟩
  · show (r.L ++ [_]).length ≤ _
    rw [List.length_append, List.length_singleton]
    omega
  · refine List.pairwise_append.2 ⟨h.order, List.pairwise_singleton _ _, fun a ha b hb => ?_⟩
    rw [List.mem_singleton.1 hb]
    exact (h.since a ha).2
  · show 0 ≤ e.since ∧ e.since < r.since + 1
    rcases List.mem_append.1 he with he | he
    · have := h.since e he
      omega
    · rw [List.mem_singleton.1 he]
      show 0 ≤ r.since ∧ r.since < r.since + 1
      omega
section
variable {w w1 : World} {g mb s : Nat} {f : Int → Option Value} {v : Value} {r : RGv} {L : List Ent} {sn mn : Int} {S S2 : Nat → Prop}
theorem RegI.turn (h : RegI w g mb s f v L sn mn S) (ht : Turn S2 w w1) (hd : ∀ k, S k → ¬ S2 k) : RegI w1 g mb s f v L sn mn S :=
  ⟨ht.blk h.hb (hd g h.sg), h.map.turn ht (hd mb h.sm), h.hs, fun i => (h.word i).turn ht (fun k hk => hd k (h.sr i k hk)), h.rest.turn ht (fun k hk => hd k (h.sv k hk)), h.apart, h.ra, h.sg, h.sm, h.sr, h.sv, fun k hk => Nat.lt_of_lt_of_le (h.lt k hk) ht.size⟩
theorem IsReg.turn (h : IsReg g r w S) (ht : Turn S2 w w1) (hd : ∀ k, S k → ¬ S2 k) : IsReg g r w1 S := by
  obtain ⟨mb, s, f, v, h⟩ := h
  exact ⟨mb, s, f, v, h.turn ht hd⟩
theorem IsReg.lt (h : IsReg g r w S) : ∀ k, S k → k < w.heap.size := by
  obtain ⟨mb, s, f, v, h⟩ := h
  exact h.lt
theorem RegI.gm (h : RegI w g mb s f v L sn mn S) : mb ≠ g := h.map.ne_cells h.hb
theorem RegI.wg (h : RegI w g mb s f v L sn mn S) (i : Int) : (sl0 (f i)).ownBlock ≠ some g := (h.word i).ne_cells h.hb (by decide)
theorem RegI.wm (h : RegI w g mb s f v L sn mn S) (i : Int) : (sl0 (f i)).ownBlock ≠ some mb := by
  obtain ⟨es, cl, hm⟩ := h.map.block
  exact (h.word i).ne_map hm
theorem RegI.vg (h : RegI w g mb s f v L sn mn S) : v.ownBlock ≠ some g := h.rest.ne_cells h.hb (by decide)
theorem RegI.vm (h : RegI w g mb s f v L sn mn S) : v.ownBlock ≠ some mb := by
  obtain ⟨es, cl, hm⟩ := h.map.block
  exact h.rest.ne_map hm
theorem RegI.c0 (h : RegI w g mb s f v L sn mn S) : w.cell? ⟨g, 0, none⟩ = some (.map (some mb)) := (blk_cell h.hb 0).trans rfl
theorem RegI.c1 (h : RegI w g mb s f v L sn mn S) : w.cell? ⟨g, 1, none⟩ = some v := (blk_cell h.hb 1).trans rfl
theorem RegI.c2 (h : RegI w g mb s f v L sn mn S) : w.cell? ⟨g, 2, none⟩ = some (.int .i64 sn) := (blk_cell h.hb 2).trans rfl
theorem RegI.c3 (h : RegI w g mb s f v L sn mn S) : w.cell? ⟨g, 3, none⟩ = some (.int .i64 mn) := (blk_cell h.hb 3).trans rfl
end
set_option maxHeartbeats 4000000 in
set_option maxRecDepth 100000 in
theorem reg_Len {w : World} {g : Nat} {r : RGv} {S : Nat → Prop} (h : IsReg g r w S) :
    Calls Try.prog 11 #[.pointer (some ⟨g, 0, none⟩)] w fun e w' => e = .returned (.int .i64 r.L.length) ∧ w' = w := by
  obtain ⟨mb, s, f, v, h⟩ := h
  have c3 := h.c3
  clear h
  go_enter Try.func11, Try.ntmps11
  go_wp2
  go_ret
  exact ⟨rfl, rfl⟩
set_option maxHeartbeats 4000000 in
set_option maxRecDepth 100000 in
theorem reg_New (w : World) :
    Calls Try.prog 8 #[] w fun e w' => ∃ g S, e = .returned (.pointer (some ⟨g, 0, none⟩)) ∧ IsReg g ⟨0, []⟩ w' S ∧ (∀ k, S k → w.heap.size ≤ k) ∧ Below w.heap.size w w' := by
  have hu := Try.underlying57
  have hmm := @run_makeMap Try.prog
  go_enter Try.func8, Try.ntmps8
  go_wp2_with fail
  go_ret
  have hM := MapZ.made w Try.prog 22 .u32
  have hT : Turn (fun _ => False) (w.alloc (.map #[] 0)) ((w.alloc (.map #[] 0)).alloc (.cells #[.map (some w.heap.size), .slice none 0 0, .int .i64 0, .int .i64 0] 57)) := (Turn.refl _ _).alloc _
  refine ⟨w.heap.size + 1, fun k => k = w.heap.size ∨ k = w.heap.size + 1, rfl, ⟨w.heap.size, 0, fun _ => none, .slice none 0 0, ?_, hM.turn hT (fun x => x), Int.le_refl _, fun i => RowX.nil _ _ _, RowX.nil _ _ _, fun i j k hk => by simp [sl0, Value.ownBlock] at hk, fun i k hk => by simp [sl0, Value.ownBlock] at hk, .inr rfl, .inl rfl, fun i k hk => by simp [sl0, Value.ownBlock] at hk, fun k hk => by simp [Value.ownBlock] at hk, fun k hk => ?_⟩, fun k hk => ?_, ?_⟩
  · have := blk_new (w.alloc (.map #[] 0)) (.cells #[.map (some w.heap.size), .slice none 0 0, .int .i64 0, .int .i64 0] 57)
    rw [alloc_size] at this
    exact this
  · rw [alloc_size, alloc_size]
    omega
  · omega
  · exact (((Turn.refl (fun _ => False) w).alloc _).alloc _).to_below
theorem zero55 (w : World) : (zeroValue 55).run Try.prog w = .ok (.slice none 0 0) w := by kernel_rfl
theorem infoEn : (Try.prog.info? 59).map (fun i => (i.zero, i.size, i.bytes)) = some (some (.agg #[.int .i64 0, .int .u32 0, .int .u32 0, .bool false, .int .i64 0]), 5, 32) := by kernel_rfl
theorem wordL_add (L : List Ent) (x : Ent) (i : Int) : wordL (L ++ [x]) i = if isOne x.flt = true ∧ x.flt.f0 = i then wordL L i ++ [x] else wordL L i := by
  unfold wordL
  rw [List.filter_append]
  by_cases h : isOne x.flt = true ∧ x.flt.f0 = i
  · rw [if_pos h]
    simp [h.1, h.2]
  · rw [if_neg h]
    have : ([x] : List Ent).filter (fun e => isOne e.flt && e.flt.f0 == i) = [] := by
      rw [List.filter_eq_nil_iff]
      intro e he
      rw [List.mem_singleton.1 he]
      simpa using h
    rw [this, List.append_nil]
theorem restE_add (L : List Ent) (x : Ent) : restE (L ++ [x]) = if isOne x.flt = true then restE L else restE L ++ [x] := by
  unfold restE
  rw [List.filter_append]
  by_cases h : isOne x.flt = true
  · rw [if_pos h]
    simp [h]
  · rw [if_neg h]
    simp [h]
theorem word_len (L : List Ent) (i : Int) : (wordL L i).length ≤ L.length := List.length_filter_le _ _
theorem rest_len (L : List Ent) : (restE L).length ≤ L.length := List.length_filter_le _ _
section
variable {w w1 w2 : World} {g mb s : Nat} {f : Int → Option Value} {v : Value} {L : List Ent} {sn mn : Int} {S : Nat → Prop}
/-- Two numbers of the register are written. -/
theorem RegI.nums (h : RegI w g mb s f v L sn mn S) {sn' mn' : Int} (hs : sn ≤ sn') (hw : w1.heap[g]? = some (.cells #[.map (some mb), v, .int .i64 sn', .int .i64 mn'] 57 (0, 0))) (ht : Turn (fun k => k = g) w w1) : RegI w1 g mb s f v L sn' mn' S :=
  ⟨hw, h.map.turn ht h.gm, Int.le_trans h.hs hs, fun i => (h.word i).turn ht (fun k hk e => h.wg i (by rw [← e]; exact hk)), h.rest.turn ht (fun k hk e => h.vg (by rw [← e]; exact hk)), h.apart, h.ra, h.sg, h.sm, h.sr, h.sv, fun k hk => Nat.lt_of_lt_of_le (h.lt k hk) ht.size⟩
/-- A word's row has turned to v1 (in its own block, or a new one) and is stored. -/
theorem RegI.put (h : RegI w g mb s f v L sn mn S) {id : Int} {L' : List Ent} {v1 : Value} {s' : Nat} (hX : RowX kEt 59 w1 v1 (wordL L' id)) (ht : Turn (fun k => (sl0 (f id)).ownBlock = some k) w w1) (hat : v1.ownBlock = (sl0 (f id)).ownBlock ∨ ∃ b, v1.ownBlock = some b ∧ w.heap.size ≤ b)
    (hM : MapZ Try.prog 22 .u32 w2 mb s' (setM f id (some v1))) (hm : Turn (fun k => k = mb) w1 w2) (hs : (s' : Int) ≤ sn) (ho : ∀ i, i ≠ id → wordL L' i = wordL L i) (hr : restE L' = restE L) :
    RegI w2 g mb s' (setM f id (some v1)) v L' sn mn (fun k => k < w2.heap.size ∧ (S k ∨ w.heap.size ≤ k)) ∧ Turn S w w2 := by
  have hb1 := ht.blk h.hb (fun e => h.wg id e)
  have hown : ∀ k, v1.ownBlock = some k → S k ∨ w.heap.size ≤ k := fun k hk => by
    rcases hat with hat | ⟨b, hb, hl⟩
    · exact .inl (h.sr id k (by rw [← hat]; exact hk))
    · rw [hb] at hk
      cases hk
      exact .inr hl
  have hlt : ∀ k, S k → k < w2.heap.size := fun k hk => Nat.lt_of_lt_of_le (h.lt k hk) (Nat.le_trans ht.size hm.size)
  obtain ⟨es, cl, hmb⟩ := h.map.block
  have hmb1 := ht.blk hmb (fun e => h.wm id e)
  have hv1m : v1.ownBlock ≠ some mb := hX.ne_map hmb1
  have hf : ∀ i, i ≠ id → setM f id (some v1) i = f i := fun i hi => setM_other f _ hi
  have new : ∀ i k, i ≠ id → v1.ownBlock = some k → (sl0 (f i)).ownBlock = some k → False := fun i k hi hk hk2 => by
    rcases hat with hat | ⟨b, hb, hl⟩
    · exact hi (h.apart i id k hk2 (by rw [← hat]; exact hk))
    · rw [hb] at hk
      cases hk
      have := (h.word i).lt hk2
      omega
  refine ⟨⟨hm.blk hb1 (fun e => h.gm e.symm), hM, hs, fun i => ?_, ?_, fun i j k hi hj => ?_, fun i k hi => ?_, ⟨hlt g h.sg, .inl h.sg⟩, ⟨hlt mb h.sm, .inl h.sm⟩, fun i k hi => ?_, fun k hk => ⟨hlt k (h.sv k hk), .inl (h.sv k hk)⟩, fun k hk => hk.1⟩, (ht.mono (S2 := S) (fun k hk => h.sr id k hk)).trans hm (fun k hk => .inl (hk ▸ h.sm))⟩
  · by_cases hi : i = id
    · subst hi
      rw [setM_same]
      exact hX.turn hm (fun k hk e => hv1m (by rw [hk, e]))
    · rw [hf i hi, ho i hi]
      exact ((h.word i).turn ht (fun k hk hk2 => hi (h.apart i id k hk hk2))).turn hm (fun k hk e => h.wm i (by rw [hk, e]))
  · rw [hr]
    exact (h.rest.turn ht (fun k hk hk2 => h.ra id k hk2 hk)).turn hm (fun k hk e => h.vm (by rw [hk, e]))
  · by_cases hii : i = id
    · by_cases hjj : j = id
      · rw [hii, hjj]
      · rw [hii, setM_same] at hi
        rw [hf j hjj] at hj
        exact (new j k hjj hi hj).elim
    · rw [hf i hii] at hi
      by_cases hjj : j = id
      · rw [hjj, setM_same] at hj
        exact (new i k hii hj hi).elim
      · rw [hf j hjj] at hj
        exact h.apart i j k hi hj
  · by_cases hii : i = id
    · rw [hii, setM_same] at hi
      rcases hat with hat | ⟨b, hb, hl⟩
      · exact h.ra id k (by rw [← hat]; exact hi)
      · have hi' : v1.ownBlock = some k := hi
        rw [hb] at hi'
        cases hi'
        exact fun e => by have := h.rest.lt e; omega
    · rw [hf i hii] at hi
      exact h.ra i k hi
  · by_cases hii : i = id
    · rw [hii, setM_same] at hi
      have hi' : v1.ownBlock = some k := hi
      exact ⟨Nat.lt_of_lt_of_le (hX.lt hi') hm.size, hown k hi'⟩
    · rw [hf i hii] at hi
      exact ⟨hlt k (h.sr i k hi), .inl (h.sr i k hi)⟩
/-- The row of the rest has turned to v1, and is stored. -/
theorem RegI.putR (h : RegI w g mb s f v L sn mn S) {L' : List Ent} {v1 : Value} (hX : RowX kEt 59 w1 v1 (restE L')) (ht : Turn (fun k => v.ownBlock = some k) w w1) (hat : v1.ownBlock = v.ownBlock ∨ ∃ b, v1.ownBlock = some b ∧ w.heap.size ≤ b) (ho : ∀ i, wordL L' i = wordL L i) :
    RegI (w1.setCell ⟨g, 1, none⟩ v1) g mb s f v1 L' sn mn (fun k => k < w1.heap.size ∧ (S k ∨ w.heap.size ≤ k)) ∧ Turn S w (w1.setCell ⟨g, 1, none⟩ v1) := by
  have hb1 := ht.blk h.hb (fun e => h.vg e)
  have hg := blk_set hb1 1 v1
  simp only [List.setIfInBounds_toArray, List.set_cons_zero, List.set_cons_succ] at hg
  have hs : Turn (fun k => k = g) w1 (w1.setCell ⟨g, 1, none⟩ v1) := (Turn.refl (fun k => k = g) _).setCell (.inl rfl) _
  have hne : v1.ownBlock ≠ some g := hX.ne_cells hb1 (by decide)
  have hown : ∀ k, v1.ownBlock = some k → S k ∨ w.heap.size ≤ k := fun k hk => by
    rcases hat with hat | ⟨b, hb, hl⟩
    · exact .inl (h.sv k (by rw [← hat]; exact hk))
    · rw [hb] at hk
      cases hk
      exact .inr hl
  have hlt : ∀ k, S k → k < w1.heap.size := fun k hk => Nat.lt_of_lt_of_le (h.lt k hk) ht.size
  refine ⟨⟨hg, (h.map.turn ht (fun e => h.vm e)).turn hs h.gm, h.hs, fun i => ?_, hX.turn hs (fun k hk e => hne (by rw [hk, e])), h.apart, fun i k hi e => ?_, ⟨hlt g h.sg, .inl h.sg⟩, ⟨hlt mb h.sm, .inl h.sm⟩, fun i k hi => ⟨hlt k (h.sr i k hi), .inl (h.sr i k hi)⟩, fun k hk => ⟨hX.lt hk, hown k hk⟩, fun k hk => Nat.lt_of_lt_of_le hk.1 hs.size⟩, (ht.mono (S2 := S) (fun k hk => h.sv k hk)).trans hs (fun k hk => .inl (hk ▸ h.sg))⟩
  · rw [ho i]
    exact ((h.word i).turn ht (fun k hk hk2 => h.ra i k hk hk2)).turn hs (fun k hk e => h.wg i (by rw [hk, e]))
  · rcases hat with hat | ⟨b, hb, hl⟩
    · exact h.ra i k hi (by rw [← hat]; exact e)
    · rw [hb] at e
      cases e
      have := (h.word i).lt hi
      omega
end
end Go.Proofs.Ytaninnkhdhpcgaa.P
