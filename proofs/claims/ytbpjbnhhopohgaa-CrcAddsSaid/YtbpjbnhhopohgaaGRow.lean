/- A row of bytes that the call holds alone, made by a conversion, a make or an append: read, written and appended to; no conditions. -/
import Derived.Test.YtbpjbnhhopohgaaWWords
import Derived.Test.YtbpjbnhhopohgaaP0
import Derived.ArgAppend
namespace Go.Proofs.Ytbpjbnhhopohgaa.P
open Go.RowKit Go.Proofs.YtbpjbnhhopohgaaW.PrintWords
set_option linter.unusedVariables false
set_option linter.unusedSimpArgs false

/-- Block g, none of whose first cap cells is frozen, holds xs in its first n cells. -/
structure RowB (w : World) (base g n cap : Nat) (xs : List Int) : Prop where
  hle : base ≤ g
  hlen : xs.length = n
  hcap : n ≤ cap
  hblk : ∃ (cs : Array Value) (e : TypeId) (f1 f2 : Nat), w.heap[g]? = some (.cells cs e (f1, f2)) ∧ cap ≤ cs.size ∧ (cap ≤ f1 ∨ f2 ≤ f1) ∧ ∀ j, j < n → cs[j]? = some (.int .u8 (xs.getD j 0))

section
variable {w w1 : World} {base g n cap : Nat} {xs : List Int}
theorem RowB.lt (h : RowB w base g n cap xs) : g < w.heap.size := by
  obtain ⟨cs, e, f1, f2, hb, _⟩ := h.hblk
  exact (Array.getElem?_eq_some_iff.1 hb).1
theorem RowB.cell (h : RowB w base g n cap xs) (j : Nat) (hj : j < n) : w.cell? ⟨g, j, none⟩ = some (.int .u8 (xs.getD j 0)) := by
  obtain ⟨cs, e, f1, f2, hb, _, _, hc⟩ := h.hblk
  simp only [World.cell?, hb]
  simpa using hc j hj
theorem RowB.free (h : RowB w base g n cap xs) (j : Nat) (hj : j < cap) : (w.cell? ⟨g, j, none⟩).isSome = true ∧ w.frozen? ⟨g, j, none⟩ = false := by
  obtain ⟨cs, e, f1, f2, hb, hs, hf, _⟩ := h.hblk
  simp only [World.cell?, World.frozen?, hb]
  have : j < cs.size := by omega
  constructor
  · simp [this]
  · simp
    omega
theorem RowB.of_block (h : RowB w base g n cap xs) (hb : w1.heap[g]? = w.heap[g]?) : RowB w1 base g n cap xs :=
  ⟨h.hle, h.hlen, h.hcap, by rw [hb]; exact h.hblk⟩
theorem RowB.below (h : RowB w base g n cap xs) (hb : Below w.heap.size w w1) : RowB w1 base g n cap xs := h.of_block (hb.block g h.lt)
theorem RowB.drew (h : RowB w base g n cap xs) : RowB w.drew base g n cap xs := h.of_block rfl
theorem RowB.alloc (h : RowB w base g n cap xs) (o : Obj) : RowB (w.alloc o) base g n cap xs := h.of_block (Below.heap_alloc w o g h.lt)
theorem RowB.setCells_ (h : RowB w base g n cap xs) (hlt : n < cap) (x : Int) : RowB (w.setCells g n [.int .u8 x]) base g (n + 1) cap (xs ++ [x]) := by
  obtain ⟨cs, e, f1, f2, hb, hs, hf, hc⟩ := h.hblk
  refine ⟨h.hle, by rw [List.length_append, h.hlen]; rfl, hlt, cs.setIfInBounds n (.int .u8 x), e, f1, f2, ?_, by simpa using hs, hf, fun j hj => ?_⟩
  · have hg : g < w.heap.size := h.lt
    have e1 := (Array.getElem?_eq_some_iff.1 hb).2
    simp [World.setCells, World.setCell, Array.getElem?_modify, hb]
  · by_cases e : j = n
    · have hl := h.hlen
      have h2 : j < cs.size := by omega
      have h3 : j = xs.length := by omega
      rw [e, Array.getElem?_setIfInBounds_self_of_lt (by omega), ← e, h3]
      simp [List.getD_eq_getElem?_getD]
    · have hj2 : j < n := by omega
      rw [Array.getElem?_setIfInBounds_ne (by omega), hc j hj2]
      simp [List.getD_eq_getElem?_getD, List.getElem?_append_left (show j < xs.length by rw [h.hlen]; exact hj2)]
theorem RowB.set (h : RowB w base g n cap xs) (i : Nat) (hi : i < n) (x : Int) : RowB (w.setCell ⟨g, i, none⟩ (.int .u8 x)) base g n cap (xs.set i x) := by
  obtain ⟨cs, e, f1, f2, hb, hs, hf, hc⟩ := h.hblk
  refine ⟨h.hle, by rw [List.length_set]; exact h.hlen, h.hcap, cs.setIfInBounds i (.int .u8 x), e, f1, f2, ?_, by simpa using hs, hf, fun j hj => ?_⟩
  · have hg : g < w.heap.size := h.lt
    simp [World.setCell, Array.getElem?_modify, hb]
  · have hl := h.hlen
    have hcp := h.hcap
    by_cases e : j = i
    · subst e
      have : j < cs.size := by omega
      have h2 : j < xs.length := by omega
      simp [this, h2, List.getD_eq_getElem?_getD]
    · rw [Array.getElem?_setIfInBounds_ne (by omega), hc j hj]
      simp [List.getD_eq_getElem?_getD, List.getElem?_set_ne (show i ≠ j by omega)]
theorem RowB.of_own {e : TypeId} {v : Value} (h : w.ownsRow base e 1 v n (nums .u8 xs)) (hn : 0 < n) : ∃ g cap, v = .slice (some ⟨g, 0, none⟩) n cap ∧ RowB w base g n cap xs := by
  have hl : xs.length = n := by have := h.1; simp [nums] at this; exact this
  rcases h.2 with ⟨_, h0⟩ | ⟨g, cap, cur, rfl, hb, hh, hc, _, hs, ht⟩
  · omega
  · refine ⟨g, cap, rfl, hb, hl, hc, cur, e, 0, 0, hh, by omega, .inr (Nat.le_refl _), fun j hj => ?_⟩
    have h1 : (cur.toList.take (n * 1))[j]? = (nums .u8 xs)[j]? := by rw [ht]
    rw [List.getElem?_take_of_lt (by omega)] at h1
    rw [Array.getElem?_toList] at h1
    rw [h1]
    simp [nums, List.getElem?_eq_getElem (show j < xs.length by omega), List.getD_eq_getElem?_getD]
theorem RowB.of_bytes (w : World) (e : TypeId) (s : ByteArray) (hb : base ≤ w.heap.size) (hs : s.size ≤ 9223372036854775807) : RowB (Lib.bytesWorld w e s) base w.heap.size s.size (grownCap w s.size 0 e) (bytesOf s) := by
  have hg : s.size ≤ grownCap w s.size 0 e := grownCap_ge w s.size 0 e
  refine ⟨hb, bytesOf_length s, hg, _, e, _, _, Lib.bytesWorld_at_new w e s, ?_, .inl ?_, fun j hj => ?_⟩
  · simp [Lib.bytesCells]; omega
  · simp [Lib.bytesCells]; omega
  · have h' : j < s.data.size := hj
    simp [Lib.bytesCells, Array.getElem?_append, bytesOf, List.getD_eq_getElem?_getD, hj, Array.getElem?_eq_getElem h']
theorem RowB.drop_reads (h : RowB w base g n cap xs) (i : Nat) (hi : i ≤ n) (hn : n ≤ 9223372036854775807) : ReadsInt w .u8 (some ⟨g, i, none⟩) (n - i) (xs.drop i) := by
  refine ⟨by rw [List.length_drop, h.hlen], by omega, fun hp => ⟨_, rfl, fun j hj => ?_⟩⟩
  have e : (⟨g, i, none⟩ : Addr).add j = ⟨g, i + j, none⟩ := by unfold Addr.add; split <;> simp_all
  rw [e, h.cell (i + j) (by omega)]
  simp [List.getD_eq_getElem?_getD, List.getElem?_drop]
end

section
variable {P : Program} {ops : Array Oper} {rest : List Oper} {o : Oper} {a : Act} {Q : Exit → Act → World → Prop}
/-- append(l, x), l such a row: behind 'at_builtin', the goal's world is 'W.alloc' of the one new element. -/
theorem rowB_append {w0 W : World} (base : Nat) (hgd : o.guard = none) (s x : Operand) (t e : TypeId)
    (ho : o.op = .call { callee := .builtin .append, args := #[s, x], argTypes := #[t, t] })
    (ht : P.underlying t = some (.slice e)) (hinfo : (P.info? e).map (fun i => (i.zero, i.size, i.bytes)) = some (some (.int .u8 0), 1, 1))
    (g n cap : Nat) (xs : List Int) (y : Int) (hs : a.eval s = .slice (some ⟨g, 0, none⟩) n cap) (hx : a.eval x = .slice (some ⟨W.heap.size, 0, none⟩) 1 1)
    (HO : RowB W base g n cap xs) (HB : Below base w0 W) (hl : n + 1 ≤ 140737488355328)
    (h : ∀ g1 cap1 w1, RowB w1 base g1 (n + 1) cap1 (xs ++ [y]) → Below base w0 w1 → wpList P ops Q rest (a.put o.dst (.slice (some ⟨g1, 0, none⟩) (n + 1) cap1)) w1) :
    wpList P ops Q (o :: rest) a (W.alloc (.cells #[.int .u8 y] e)) := by
  obtain ⟨i0, hi, hzz⟩ := Option.map_eq_some_iff.1 hinfo
  simp only [Prod.mk.injEq] at hzz
  obtain ⟨hz0, hz1, hz2⟩ := hzz
  have HA := HO.alloc (.cells #[.int .u8 y] e)
  have hbase : base ≤ W.heap.size := Nat.le_trans HO.hle (Nat.le_of_lt HO.lt)
  have HB1 := HB.alloc hbase (.cells #[.int .u8 y] e)
  have hnews : ∀ j u, ([.int .u8 y] : List Value)[j]? = some u → (W.alloc (.cells #[.int .u8 y] e)).cell? ((⟨W.heap.size, 0, none⟩ : Addr).add j) = some u :=
    World.news_of_block (cs := #[.int .u8 y]) (t := e) (fr := (0, 0)) (heap_alloc_new W _)
  have hln := HO.hlen
  refine wpList_append_arg (W.alloc (.cells #[.int .u8 y] e)) hgd s x t ho e i0 (.int .u8 0) 1 1 ht hi hz0 hz1 hz2 rfl (by decide) g 0 n cap (nums .u8 xs) hs (by rw [nums_length]; omega) ?_ ⟨W.heap.size, 0, none⟩ 1 1 [.int .u8 y] hx rfl hnews (by simp [Value.oneCell']) ?_ (by simp only [maxLen]; omega) (by omega) ?_ ?_
  · intro j u hj
    rw [Nat.zero_add]
    have hjn : j < xs.length := by
      rcases Nat.lt_or_ge j xs.length with h | h
      · exact h
      · simp [nums, List.getElem?_eq_none h] at hj
    simp [nums, List.getElem?_eq_getElem hjn] at hj
    rw [HA.cell j (by omega), ← hj]
    simp [List.getD_eq_getElem?_getD, hjn]
  · intro hroom j hj
    obtain rfl : j = 0 := by simpa using hj
    have := HA.free n (by omega)
    simpa using this
  · intro hroom
    have h1 := HA.setCells_ (show n < cap by omega) y
    have h2 : 0 + n * 1 = n := by omega
    rw [h2]
    exact h g cap _ h1 (HB1.setCell HO.hle _)
  · intro hfull v' w' hown hgrow
    have h0 : nums .u8 xs ++ [.int .u8 y] = nums .u8 (xs ++ [y]) := by simp [nums]
    rw [h0] at hown
    obtain ⟨g1, c1, rfl, hR⟩ := RowB.of_own (base := (W.alloc (.cells #[.int .u8 y] e)).heap.size) hown (by omega)
    refine h g1 c1 w' ⟨by have := hR.hle; simp at this; omega, hR.hlen, hR.hcap, hR.hblk⟩ ?_
    exact HB1.grown hgrow (by simp; omega) (fun k hk => by cases hk)
end
end Go.Proofs.Ytbpjbnhhopohgaa.P
