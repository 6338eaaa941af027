/- A clock and what is due by it: New, Now, Len, Set, Cancel, Due; no conditions. -/
import Derived.Test.YtbmommikjiikaaaGRange
import Derived.Test.YtbmommikjiikaaaGResults
import Derived.Test.YtbmommikjiikaaaGNum
import Derived.Test.YtbmommikjiikaaaP0
namespace Go.Proofs.Ytbmommikjiikaaa.P
open Go.RowKit Go.Maps Go.Proofs.YtbmommikjiikaaaW.PrintWords Go.Proofs.YtbmommikjiikaaaW.PrintLast Go.Proofs.YtbmommikjiikaaaW.PrintMore
set_option linter.unusedVariables false
set_option linter.unusedSimpArgs false

structure En where
  key : Int
  due : Int
  since : Int
deriving DecidableEq
def enV (e : En) : Value := .agg #[.int .i64 e.key, .int .i64 e.due, .int .i64 e.since]
def mapOf (L : List En) : Int → Option Value := fun i => (L.find? (fun e => e.key == i)).map enV
structure CK where
  now : Int
  since : Int
  L : List En
structure ClockI (w : World) (g mb : Nat) (c : CK) (S : Nat → Prop) : Prop where
  hb : w.heap[g]? = some (.cells #[.int .i64 c.now, .map (some mb), .int .i64 c.since] 52 (0, 0))
  map : MapZ Try.prog 3 .i64 w mb c.L.length (mapOf c.L)
  sg : S g
  sm : S mb
  lt : ∀ k, S k → k < w.heap.size
/-- A clock at g, of whose blocks are S. -/
def IsClock (g : Nat) (c : CK) (w : World) (S : Nat → Prop) : Prop := ∃ mb, ClockI w g mb c S
structure COk (c : CK) : Prop where
  n0 : 0 ≤ c.now
  n1 : c.now ≤ 1125899906842624
  s0 : 0 ≤ c.since
  s1 : c.since ≤ 1125899906842624
  len : c.L.length ≤ 1000
  keys : c.L.Pairwise (fun a b => a.key ≠ b.key)
  order : c.L.Pairwise (fun a b => a.since < b.since)
  wf : ∀ e ∈ c.L, (Lit.int .i64 e.key).wf = true
  due : ∀ e ∈ c.L, c.now < e.due ∧ e.due ≤ 2305843009213693952
  since : ∀ e ∈ c.L, 0 ≤ e.since ∧ e.since < c.since
/-! ### lists of alarms -/
def outL (L : List En) (key : Int) : List En := L.filter (fun e => !(e.key == key))
theorem mapOf_append (L : List En) (e : En) (h : ∀ x ∈ L, x.key ≠ e.key) : mapOf (L ++ [e]) = setM (mapOf L) e.key (some (enV e)) := by
  funext i
  unfold mapOf setM
  rw [List.find?_append]
  by_cases hi : i = e.key
  · subst hi
    have : L.find? (fun x => x.key == e.key) = none := List.find?_eq_none.2 (fun x hx => by simpa using h x hx)
    rw [if_pos rfl, this]
    simp
  · rw [if_neg hi]
    have : ([e] : List En).find? (fun x => x.key == i) = none := by simp; exact fun h => hi h.symm
    rw [this]
    simp
theorem mapOf_out (L : List En) (key : Int) : mapOf (outL L key) = setM (mapOf L) key none := by
  funext i
  unfold mapOf setM outL
  rw [List.find?_filter]
  by_cases hi : i = key
  · subst hi
    rw [if_pos rfl]
    have : L.find? (fun a => decide ((!(a.key == i)) = true ∧ (a.key == i) = true)) = none := List.find?_eq_none.2 (fun x hx => by simp)
    rw [this]
    rfl
  · rw [if_neg hi]
    congr 1
    congr 1
    funext a
    by_cases ha : a.key = i
    · simp [ha, hi]
    · simp [ha]
theorem out_not (L : List En) (key : Int) : ∀ x ∈ outL L key, x.key ≠ key := fun x hx => by
  have := (List.mem_filter.1 hx).2
  simpa using this
theorem out_same {L : List En} {key : Int} (h : ∀ x ∈ L, x.key ≠ key) : outL L key = L := List.filter_eq_self.2 (fun x hx => by simpa using h x hx)
def hasK (L : List En) (key : Int) : Bool := (mapOf L key).isSome
theorem hasK_iff (L : List En) (key : Int) : hasK L key = true ↔ ∃ e ∈ L, e.key = key := by
  unfold hasK mapOf
  simp
theorem hasK_not {L : List En} {key : Int} (h : hasK L key = false) : ∀ x ∈ L, x.key ≠ key := fun x hx e => by
  have := (hasK_iff L key).2 ⟨x, hx, e⟩
  rw [h] at this
  cases this
theorem out_len {L : List En} (hk : L.Pairwise (fun a b => a.key ≠ b.key)) (key : Int) : (outL L key).length + (if hasK L key = true then 1 else 0) = L.length := by
  induction L with
  | nil => rfl
  | cons a L ih =>
    obtain ⟨h1, h2⟩ := List.pairwise_cons.1 hk
    by_cases ha : a.key = key
    · subst ha
      have e1 : hasK (a :: L) a.key = true := (hasK_iff _ _).2 ⟨a, List.mem_cons_self, rfl⟩
      have e2 : outL (a :: L) a.key = L := by
        unfold outL
        rw [List.filter_cons_of_neg (by simp)]
        exact out_same (fun x hx e => h1 x hx e.symm)
      rw [e1, e2]
      rfl
    · have e1 : hasK (a :: L) key = hasK L key := by
        unfold hasK mapOf
        rw [List.find?_cons_of_neg (by simpa using ha)]
      have e2 : outL (a :: L) key = a :: outL L key := by
        unfold outL
        rw [List.filter_cons_of_pos (by simpa using ha)]
      rw [e1, e2]
      have := ih h2
      simp only [List.length_cons]
      omega
theorem mapOf_mem {L : List En} {i : Int} {v : Value} (h : mapOf L i = some v) : ∃ e ∈ L, e.key = i ∧ v = enV e := by
  unfold mapOf at h
  cases hf : L.find? (fun e => e.key == i) with
  | none => rw [hf] at h; cases h
  | some e =>
    rw [hf] at h
    refine ⟨e, List.mem_of_find?_eq_some hf, by simpa using List.find?_some hf, (Option.some.inj h).symm⟩
theorem mapOf_at {L : List En} (hk : L.Pairwise (fun a b => a.key ≠ b.key)) {e : En} (he : e ∈ L) : mapOf L e.key = some (enV e) := by
  induction L with
  | nil => simp at he
  | cons a L ih =>
    obtain ⟨h1, h2⟩ := List.pairwise_cons.1 hk
    rcases List.mem_cons.1 he with rfl | he
    · simp [mapOf]
    · have : (a.key == e.key) = false := by simpa using h1 e he
      rw [← ih h2 he]
      unfold mapOf
      rw [List.find?_cons, this]
theorem out_pw {R : En → En → Prop} {L : List En} (h : L.Pairwise R) (key : Int) : (outL L key).Pairwise R := h.sublist List.filter_sublist
theorem out_mem {L : List En} {key : Int} {x : En} (h : x ∈ outL L key) : x ∈ L := (List.mem_filter.1 h).1
/-! ### the clock -/
def setC (c : CK) (key d : Int) : CK := ⟨c.now, c.since + 1, outL c.L key ++ [⟨key, c.now + d, c.since⟩]⟩
def cancelC (c : CK) (key : Int) : CK := { c with L := outL c.L key }
theorem COk.cancel {c : CK} (h : COk c) (key : Int) : COk (cancelC c key) :=
  ⟨h.n0, h.n1, h.s0, h.s1, Nat.le_trans (List.length_filter_le _ _) h.len, out_pw h.keys key, out_pw h.order key, fun e he => h.wf e (out_mem he), fun e he => h.due e (out_mem he), fun e he => h.since e (out_mem he)⟩
theorem COk.set {c : CK} (h : COk c) {key d : Int} (hk : (Lit.int .i64 key).wf = true) (h1 : 1 ≤ d) (h2 : d ≤ 1099511627776) (hs : c.since < 1125899906842624) (hl : hasK c.L key = true ∨ c.L.length < 1000) : COk (setC c key d) := by
  have hlen := out_len h.keys key
  have hh := h.len
  refine ⟨h.n0, h.n1, by have := h.s0; show 0 ≤ c.since + 1; omega, by show c.since + 1 ≤ _; omega, ?_, ?_, ?_, fun e he => ?_, fun e he => ?_, fun e he => ?_⟩
  · show (outL c.L key ++ [_]).length ≤ 1000
    rw [List.length_append, List.length_singleton]
    rcases hl with hl | hl
    · rw [if_pos hl] at hlen
      omega
    · omega
  · refine List.pairwise_append.2 ⟨out_pw h.keys key, by simp, fun a ha b hb => ?_⟩
    rw [List.mem_singleton] at hb
    subst hb
    exact out_not _ _ a ha
  · refine List.pairwise_append.2 ⟨out_pw h.order key, by simp, fun a ha b hb => ?_⟩
    rw [List.mem_singleton] at hb
    subst hb
    exact (h.since a (out_mem ha)).2
  · rcases List.mem_append.1 he with he | he
    · exact h.wf e (out_mem he)
    · rw [List.mem_singleton] at he
      subst he
      exact hk
  · rcases List.mem_append.1 he with he | he
    · exact h.due e (out_mem he)
    · rw [List.mem_singleton] at he
      subst he
      have := h.n1
      show c.now < c.now + d ∧ c.now + d ≤ _
      omega
  · show 0 ≤ e.since ∧ e.since < c.since + 1
    rcases List.mem_append.1 he with he | he
    · have := h.since e (out_mem he)
      omega
    · rw [List.mem_singleton] at he
      subst he
      have := h.s0
      show 0 ≤ c.since ∧ c.since < c.since + 1
      omega
section
variable {w w1 : World} {g mb : Nat} {c : CK} {S S2 : Nat → Prop}
theorem ClockI.turn (h : ClockI w g mb c S) (ht : Turn S2 w w1) (hd : ∀ k, S k → ¬ S2 k) : ClockI w1 g mb c S :=
  ⟨ht.blk h.hb (hd g h.sg), h.map.turn ht (hd mb h.sm), h.sg, h.sm, fun k hk => Nat.lt_of_lt_of_le (h.lt k hk) ht.size⟩
theorem IsClock.turn (h : IsClock g c w S) (ht : Turn S2 w w1) (hd : ∀ k, S k → ¬ S2 k) : IsClock g c w1 S := by
  obtain ⟨mb, h⟩ := h
  exact ⟨mb, h.turn ht hd⟩
theorem IsClock.lt (h : IsClock g c w S) : ∀ k, S k → k < w.heap.size := by
  obtain ⟨mb, h⟩ := h
  exact h.lt
theorem IsClock.below (h : IsClock g c w S) (hb : Below w.heap.size w w1) : IsClock g c w1 S := h.turn (.of_below hb (fun _ => False)) (fun _ _ x => x)
theorem ClockI.gm (h : ClockI w g mb c S) : mb ≠ g := h.map.ne_cells h.hb
theorem ClockI.c0 (h : ClockI w g mb c S) : w.cell? ⟨g, 0, none⟩ = some (.int .i64 c.now) := (blk_cell h.hb 0).trans rfl
theorem ClockI.c1 (h : ClockI w g mb c S) : w.cell? ⟨g, 1, none⟩ = some (.map (some mb)) := (blk_cell h.hb 1).trans rfl
theorem ClockI.c2 (h : ClockI w g mb c S) : w.cell? ⟨g, 2, none⟩ = some (.int .i64 c.since) := (blk_cell h.hb 2).trans rfl
end
set_option maxHeartbeats 4000000 in
set_option maxRecDepth 100000 in
theorem clock_Now {w : World} {g : Nat} {c : CK} {S : Nat → Prop} (h : IsClock g c w S) :
    Calls Try.prog 23 #[.pointer (some ⟨g, 0, none⟩)] w fun e w' => e = .returned (.int .i64 c.now) ∧ w' = w := by
  obtain ⟨mb, h⟩ := h
  have c0 := h.c0
  clear h
  go_enter Try.func23, Try.ntmps23
  go_wp2
  go_ret
  exact ⟨rfl, rfl⟩
set_option maxHeartbeats 4000000 in
set_option maxRecDepth 100000 in
theorem clock_Len {w : World} {g : Nat} {c : CK} {S : Nat → Prop} (h : IsClock g c w S) :
    Calls Try.prog 15 #[.pointer (some ⟨g, 0, none⟩)] w fun e w' => e = .returned (.int .i64 c.L.length) ∧ w' = w := by
  obtain ⟨mb, h⟩ := h
  have c1 := h.c1
  have hl := h.map.len Try.underlying50 3
  clear h
  go_enter Try.func15, Try.ntmps15
  go_wp2
  go_ret
  exact ⟨rfl, rfl⟩
set_option maxHeartbeats 4000000 in
set_option maxRecDepth 100000 in
theorem clock_New (w : World) :
    Calls Try.prog 9 #[] w fun e w' => ∃ g S, e = .returned (.pointer (some ⟨g, 0, none⟩)) ∧ IsClock g ⟨0, 0, []⟩ w' S ∧ (∀ k, S k → w.heap.size ≤ k) ∧ Below w.heap.size w w' := by
  have hu := Try.underlying52
  have hmm := @run_makeMap Try.prog
  go_enter Try.func9, Try.ntmps9
  go_wp2_with fail
  go_ret
  have hM := MapZ.made w Try.prog 3 .i64
  have hT : Turn (fun _ => False) (w.alloc (.map #[] 0)) ((w.alloc (.map #[] 0)).alloc (.cells #[.int .i64 0, .map (some w.heap.size), .int .i64 0] 52)) := (Turn.refl _ _).alloc _
  refine ⟨w.heap.size + 1, fun k => k = w.heap.size ∨ k = w.heap.size + 1, rfl, ⟨w.heap.size, ?_, hM.turn hT (fun x => x), .inr rfl, .inl rfl, fun k hk => ?_⟩, fun k hk => ?_, ?_⟩
  · have := blk_new (w.alloc (.map #[] 0)) (.cells #[.int .i64 0, .map (some w.heap.size), .int .i64 0] 52)
    rw [alloc_size] at this
    exact this
  · rw [alloc_size, alloc_size]
    omega
  · omega
  · exact (((Turn.refl (fun _ => False) w).alloc _).alloc _).to_below
theorem zero54 (w : World) : (zeroValue 54).run Try.prog w = .ok (.agg #[.int .i64 0, .int .i64 0, .int .i64 0]) w := by kernel_rfl
def enZ : En := ⟨0, 0, 0⟩
def atK (L : List En) (key : Int) : En := ((L.find? (fun e => e.key == key))).getD enZ
theorem mapOf_getD (L : List En) (key : Int) : (mapOf L key).getD (.agg #[.int .i64 0, .int .i64 0, .int .i64 0]) = enV (atK L key) := by
  unfold mapOf atK
  cases L.find? (fun e => e.key == key) <;> rfl
theorem ClockI.look {w : World} {g mb : Nat} {c : CK} {S : Nat → Prop} (h : ClockI w g mb c S) {key : Int} (hk : (Lit.int .i64 key).wf = true) :
    (Instr.lookup 50 (.map (some mb)) (.int .i64 key) true).run Try.prog w = .ok (.tuple #[.agg #[.int .i64 (atK c.L key).key, .int .i64 (atK c.L key).due, .int .i64 (atK c.L key).since], .bool (hasK c.L key)]) w := by
  have := h.map.mapI.look_ok Try.underlying3 Try.underlying50 (zero54 w) hk
  rw [mapOf_getD] at this
  exact this
set_option maxHeartbeats 4000000 in
set_option maxRecDepth 100000 in
theorem clock_Due {w : World} {g : Nat} {c : CK} {S : Nat → Prop} {key : Int} (hk : (Lit.int .i64 key).wf = true) (h : IsClock g c w S) :
    Calls Try.prog 20 #[.pointer (some ⟨g, 0, none⟩), .int .i64 key] w fun e w' => e = .returned (.tuple #[.int .i64 (atK c.L key).due, .bool (hasK c.L key)]) ∧ Below w.heap.size w w' := by
  obtain ⟨mb, h⟩ := h
  have c1 := h.c1
  have hl := h.look hk
  have hu := Try.underlying54
  clear h
  go_enter Try.func20, Try.ntmps20
  go_wp2
  go_ret2
  exact ⟨rfl, ((Turn.refl (fun _ => False) w).alloc _).to_below⟩
set_option maxHeartbeats 4000000 in
set_option maxRecDepth 100000 in
theorem clock_Cancel {w : World} {g : Nat} {c : CK} {S : Nat → Prop} {key : Int} (hk : (Lit.int .i64 key).wf = true) (ok : COk c) (h : IsClock g c w S) :
    Calls Try.prog 12 #[.pointer (some ⟨g, 0, none⟩), .int .i64 key] w fun e w' => e = .returned (.bool (hasK c.L key)) ∧ IsClock g (cancelC c key) w' S ∧ Turn S w w' := by
  obtain ⟨mb, h⟩ := h
  have c1 := h.c1
  have hl := h.look hk
  have hu := Try.underlying54
  have H := Aside0.mk h
  have OK := Aside0.mk ok
  clear h ok
  go_enter Try.func12, Try.ntmps12
  go_upto_region 4 with (fail)
  refine wp_world (fun W => ClockI W g mb c S ∧ Turn S w W) ⟨H.out.turn ((Turn.refl (fun _ => False) w).alloc _) (fun _ _ x => x), (Turn.refl S w).alloc _⟩ ?_
  rintro W1 ⟨h1, ht⟩
  have c1 := h1.c1
  obtain ⟨w2, s', hrun, hM, hs, hT⟩ := h1.map.drop Try.underlying3 Try.underlying50 hk 0
  have H1 := Aside0.mk h1
  have HM := Aside0.mk hM
  have HS := Aside0.mk hs
  have HT := Aside0.mk (show Turn (fun k => k = mb) W1 w2 from (Turn.refl _ W1).map hT (.inl rfl))
  have HW := Aside0.mk ht
  clear h1 hM hT ht hl H hs
  go_wp2
  go_ret
  have hlen := out_len OK.out.keys key
  have hs := HS.out
  have e : s' = (outL c.L key).length := by
    unfold hasK at hlen
    omega
  have hM := HM.out
  rw [← mapOf_out, e] at hM
  exact ⟨rfl, ⟨mb, HT.out.blk H1.out.hb (fun e => H1.out.gm e.symm), hM, H1.out.sg, H1.out.sm, fun k hk => Nat.lt_of_lt_of_le (H1.out.lt k hk) HT.out.size⟩, HW.out.trans HT.out (fun k hk => .inl (hk ▸ H1.out.sm))⟩
theorem wfI (x : Int) (h0 : -9223372036854775808 ≤ x) (h1 : x ≤ 9223372036854775807) : (Lit.int .i64 x).wf = true := WalkArith.wf_i64 ⟨h0, h1⟩
set_option maxHeartbeats 8000000 in
set_option maxRecDepth 100000 in
theorem clock_Set {w : World} {g : Nat} {c : CK} {S : Nat → Prop} {key d : Int} (hk : (Lit.int .i64 key).wf = true) (h1 : 1 ≤ d) (h2 : d ≤ 1099511627776) (ok : COk c) (hl : hasK c.L key = true ∨ c.L.length < 1000) (h : IsClock g c w S) :
    Calls Try.prog 10 #[.pointer (some ⟨g, 0, none⟩), .int .i64 key, .int .i64 d] w fun e w' => e = .returned (.int .i64 0) ∧ IsClock g (setC c key d) w' S ∧ Turn S w w' := by
  obtain ⟨mb, h⟩ := h
  have c1 := h.c1
  have hlk := h.look hk
  have hu := Try.underlying54
  have H := Aside0.mk h
  have OK := Aside0.mk ok
  have d1 : decide (d < 1) = false := decide_eq_false (by omega)
  have d2 : decide (d > 1099511627776) = false := decide_eq_false (by omega)
  have n1 : wrap64 (c.now + d) = c.now + d := w64_small _ (by have := ok.n0; omega) (by have := ok.n1; omega)
  have n2 : wrap64 (c.since + 1) = c.since + 1 := w64_small _ (by have := ok.s0; omega) (by have := ok.s1; omega)
  have hl2 : hasK c.L key = true ∨ (hasK c.L key = false ∧ decide ((c.L.length : Int) ≥ 1000) = false) := by
    rcases hl with hl | hl
    · exact .inl hl
    · cases hasK c.L key
      · exact .inr ⟨rfl, decide_eq_false (by omega)⟩
      · exact .inl rfl
  have HL := Aside0.mk hl2
  clear h ok hl hl2 h1 h2
  go_enter Try.func10, Try.ntmps10
  go_upto_region 4 with (fail)
  refine wp_world (fun W => ClockI W g mb c S ∧ Turn S w W) ⟨H.out.turn ((Turn.refl (fun _ => False) w).alloc _) (fun _ _ x => x), (Turn.refl S w).alloc _⟩ ?_
  rintro W1 ⟨h1, ht⟩
  have c0 := h1.c0
  have c1 := h1.c1
  have c2 := h1.c2
  have hln := h1.map.len Try.underlying50 3
  have H1 := Aside0.mk h1
  have HW := Aside0.mk ht
  clear h1 ht hlk H
  have HS : Aside0 (∀ W, Turn (fun _ => False) W1 W → ∃ w4, (Instr.mapUpdate 50 (.map (some mb)) (.int .i64 key) (.agg #[.int .i64 key, .int .i64 (c.now + d), .int .i64 c.since])).run Try.prog W = .ok () w4 ∧ ClockI w4 g mb ⟨c.now, c.since, (setC c key d).L⟩ S ∧ Turn (fun k => k = mb) W1 w4) := by
    refine ⟨fun W hW => ?_⟩
    have hM := H1.out.map.turn hW (fun x => x)
    obtain ⟨w4, hrun, hM4, hT⟩ := hM.store Try.underlying3 Try.underlying50 (by have := OK.out.len; unfold maxLen; omega) hk (enV ⟨key, c.now + d, c.since⟩)
    have T4 : Turn (fun k => k = mb) W1 w4 := (hW.mono (fun k hk => hk.elim)).map hT (.inl rfl)
    refine ⟨w4, hrun, ⟨T4.blk H1.out.hb (fun e => H1.out.gm e.symm), ?_, H1.out.sg, H1.out.sm, fun k hk => Nat.lt_of_lt_of_le (H1.out.lt k hk) T4.size⟩, T4⟩
    have e1 : mapOf (setC c key d).L = setM (mapOf c.L) key (some (enV ⟨key, c.now + d, c.since⟩)) := by
      unfold setC
      rw [mapOf_append (outL c.L key) ⟨key, c.now + d, c.since⟩ (out_not c.L key), mapOf_out]
      funext i
      unfold setM
      split <;> rfl
    have e2 : (setC c key d).L.length = if (mapOf c.L key).isSome then c.L.length else c.L.length + 1 := by
      have := out_len OK.out.keys key
      unfold setC
      rw [List.length_append, List.length_singleton]
      unfold hasK at this
      split
      · rename_i h
        rw [if_pos h] at this
        omega
      · rename_i h
        rw [if_neg h] at this
        omega
    show MapZ _ _ _ _ _ (setC c key d).L.length (mapOf (setC c key d).L)
    rw [e1, e2]
    exact hM4
  rcases HL.out with hl | ⟨hl, hlt⟩
  all_goals
    go_upto_region 8 with (fail)
    refine start_ (n := 18) (S := fun w' => w'.cell? ⟨g, 1, none⟩ = some (.map (some mb)) ∧ w'.cell? ⟨g, 0, none⟩ = some (.int .i64 c.now) ∧ w'.cell? ⟨g, 2, none⟩ = some (.int .i64 c.since)) (ds := [17]) #[false, false, false, false, false, false, false, false, false, false, false, false, false, false, false, false, false, false] (by kernel_rfl) rfl rfl ⟨c1, c0, c2⟩ (fun hHeld => ?_)
    refine pure_ (i := 0) (N := some 38) (v := ?_) (a' := ?_) #[true, false, false, false, false, false, false, false, false, false, false, false, false, false, false, false, false, false] rfl rfl (by kernel_rfl) (fun _ _ _ h => h) (Or.inl ⟨by rfl, ?_⟩) ?_ ?_
    rotate_left
    · intro w'
      go_simp
      with_reducible rfl
    rotate_left
    · simp only [Act.put, List.setIfInBounds_toArray, List.set_cons_zero, List.set_cons_succ, i64_w, i32_w]
      rfl
    refine pure_ (i := 1) (N := some 39) (v := ?_) (a' := ?_) #[true, true, false, false, false, false, false, false, false, false, false, false, false, false, false, false, false, false] rfl rfl (by kernel_rfl) (fun _ _ _ h => h) (Or.inl ⟨by rfl, ?_⟩) ?_ ?_
    rotate_left
    · intro w'
      go_simp
      with_reducible rfl
    rotate_left
    · simp only [Act.put, List.setIfInBounds_toArray, List.set_cons_zero, List.set_cons_succ, i64_w, i32_w]
      rfl
    refine pure_ (i := 2) (N := some 40) (v := ?_) (a' := ?_) #[true, true, true, false, false, false, false, false, false, false, false, false, false, false, false, false, false, false] rfl rfl (by kernel_rfl) (fun _ _ _ h => h) (Or.inl ⟨by rfl, ?_⟩) ?_ ?_
    rotate_left
    · intro w'
      go_simp
      with_reducible rfl
    rotate_left
    · simp only [Act.put, List.setIfInBounds_toArray, List.set_cons_zero, List.set_cons_succ, i64_w, i32_w]
      rfl
    refine pure_ (i := 4) (N := some 42) (v := ?_) (a' := ?_) #[true, true, true, false, true, false, false, false, false, false, false, false, false, false, false, false, false, false] rfl rfl (by kernel_rfl) (fun _ _ _ h => h) (Or.inl ⟨by rfl, ?_⟩) ?_ ?_
    rotate_left
    · intro w'
      go_simp
      with_reducible rfl
    rotate_left
    · simp only [Act.put, List.setIfInBounds_toArray, List.set_cons_zero, List.set_cons_succ, i64_w, i32_w]
      rfl
    refine pure_ (i := 5) (N := some 43) (v := ?_) (a' := ?_) #[true, true, true, false, true, true, false, false, false, false, false, false, false, false, false, false, false, false] rfl rfl (by kernel_rfl) (fun _ _ _ h => h) (Or.inl ⟨by rfl, ?_⟩) ?_ ?_
    rotate_left
    · intro w'
      go_simp
      with_reducible rfl
    rotate_left
    · simp only [Act.put, List.setIfInBounds_toArray, List.set_cons_zero, List.set_cons_succ, i64_w, i32_w]
      rfl
    refine pure_ (i := 6) (N := some 44) (v := ?_) (a' := ?_) #[true, true, true, false, true, true, true, false, false, false, false, false, false, false, false, false, false, false] rfl rfl (by kernel_rfl) (fun _ _ _ h => h) (Or.inl ⟨by rfl, ?_⟩) ?_ ?_
    rotate_left
    · intro w'
      go_simp
      with_reducible rfl
    rotate_left
    · simp only [Act.put, List.setIfInBounds_toArray, List.set_cons_zero, List.set_cons_succ, i64_w, i32_w]
      rfl
    refine pure_ (i := 7) (N := some 45) (v := ?_) (a' := ?_) #[true, true, true, false, true, true, true, true, false, false, false, false, false, false, false, false, false, false] rfl rfl (by kernel_rfl) (fun _ _ _ h => h) (Or.inl ⟨by rfl, ?_⟩) ?_ ?_
    rotate_left
    · intro w'
      go_simp
      with_reducible rfl
    rotate_left
    · simp only [Act.put, List.setIfInBounds_toArray, List.set_cons_zero, List.set_cons_succ, i64_w, i32_w]
      rfl
    refine pure_ (i := 8) (N := some 46) (v := ?_) (a' := ?_) #[true, true, true, false, true, true, true, true, true, false, false, false, false, false, false, false, false, false] rfl rfl (by kernel_rfl) (fun _ _ _ h => h) (Or.inl ⟨by rfl, ?_⟩) ?_ ?_
    rotate_left
    · intro w'
      go_simp
      with_reducible rfl
    rotate_left
    · simp only [Act.put, List.setIfInBounds_toArray, List.set_cons_zero, List.set_cons_succ, i64_w, i32_w]
      rfl
    refine pure_ (i := 10) (N := some 48) (v := ?_) (a' := ?_) #[true, true, true, false, true, true, true, true, true, false, true, false, false, false, false, false, false, false] rfl rfl (by kernel_rfl) (fun _ _ _ h => h) (Or.inl ⟨by rfl, ?_⟩) ?_ ?_
    rotate_left
    · intro w'
      go_simp
      with_reducible rfl
    rotate_left
    · simp only [Act.put, List.setIfInBounds_toArray, List.set_cons_zero, List.set_cons_succ, i64_w, i32_w]
      rfl
    refine pure_ (i := 12) (N := some 50) (v := ?_) (a' := ?_) #[true, true, true, false, true, true, true, true, true, false, true, false, true, false, false, false, false, false] rfl rfl (by kernel_rfl) (fun _ _ _ h => h) (Or.inl ⟨by rfl, ?_⟩) ?_ ?_
    rotate_left
    · intro w'
      go_simp
      with_reducible rfl
    rotate_left
    · simp only [Act.put, List.setIfInBounds_toArray, List.set_cons_zero, List.set_cons_succ, i64_w, i32_w]
      rfl
    refine pure_ (i := 13) (N := some 51) (v := ?_) (a' := ?_) #[true, true, true, false, true, true, true, true, true, false, true, false, true, true, false, false, false, false] rfl rfl (by kernel_rfl) (fun _ _ _ h => h) (Or.inl ⟨by rfl, ?_⟩) ?_ ?_
    rotate_left
    · intro w'
      go_simp
      with_reducible rfl
    rotate_left
    · simp only [Act.put, List.setIfInBounds_toArray, List.set_cons_zero, List.set_cons_succ, i64_w, i32_w]
      rfl
    refine pure_ (i := 14) (N := some 52) (v := ?_) (a' := ?_) #[true, true, true, false, true, true, true, true, true, false, true, false, true, true, true, false, false, false] rfl rfl (by kernel_rfl) (fun _ _ _ h => h) (Or.inl ⟨by rfl, ?_⟩) ?_ ?_
    rotate_left
    · intro w'
      go_simp
      with_reducible rfl
    rotate_left
    · simp only [Act.put, List.setIfInBounds_toArray, List.set_cons_zero, List.set_cons_succ, i64_w, i32_w]
      rfl
    refine take_ (i := 3) (N := some 41) (v := ?_) (a' := ?_) #[true, true, true, true, true, true, true, true, true, false, true, false, true, true, true, false, false, false] rfl rfl (by kernel_rfl) (fun _ _ _ h => h) (Or.inl ⟨by rfl, ?_⟩) hHeld ?_ ?_
    rotate_left
    · rintro w' ⟨s0, s1, s2⟩
      go_simp
      with_reducible rfl
    rotate_left
    · simp only [Act.put, List.setIfInBounds_toArray, List.set_cons_zero, List.set_cons_succ, i64_w, i32_w]
      rfl
    refine take_ (i := 9) (N := some 47) (v := ?_) (a' := ?_) #[true, true, true, true, true, true, true, true, true, true, true, false, true, true, true, false, false, false] rfl rfl (by kernel_rfl) (fun _ _ _ h => h) (Or.inl ⟨by rfl, ?_⟩) hHeld ?_ ?_
    rotate_left
    · rintro w' ⟨s0, s1, s2⟩
      go_simp
      with_reducible rfl
    rotate_left
    · simp only [Act.put, List.setIfInBounds_toArray, List.set_cons_zero, List.set_cons_succ, i64_w, i32_w]
      rfl
    refine pure_ (i := 11) (N := some 49) (v := ?_) (a' := ?_) #[true, true, true, true, true, true, true, true, true, true, true, true, true, true, true, false, false, false] rfl rfl (by kernel_rfl) (fun _ _ _ h => h) (Or.inl ⟨by rfl, ?_⟩) ?_ ?_
    rotate_left
    · intro w'
      go_simp
      with_reducible rfl
    rotate_left
    · simp only [Act.put, List.setIfInBounds_toArray, List.set_cons_zero, List.set_cons_succ, i64_w, i32_w]
      rfl
    refine take_ (i := 15) (N := some 53) (v := ?_) (a' := ?_) #[true, true, true, true, true, true, true, true, true, true, true, true, true, true, true, true, false, false] rfl rfl (by kernel_rfl) (fun _ _ _ h => h) (Or.inl ⟨by rfl, ?_⟩) hHeld ?_ ?_
    rotate_left
    · rintro w' ⟨s0, s1, s2⟩
      go_simp
      with_reducible rfl
    rotate_left
    · simp only [Act.put, List.setIfInBounds_toArray, List.set_cons_zero, List.set_cons_succ, i64_w, i32_w]
      rfl
    refine pure_ (i := 16) (N := some 54) (v := ?_) (a' := ?_) #[true, true, true, true, true, true, true, true, true, true, true, true, true, true, true, true, true, false] rfl rfl (by kernel_rfl) (fun _ _ _ h => h) (Or.inl ⟨by rfl, ?_⟩) ?_ ?_
    rotate_left
    · intro w'
      go_simp
      with_reducible rfl
    rotate_left
    · simp only [Act.put, List.setIfInBounds_toArray, List.set_cons_zero, List.set_cons_succ, i64_w, i32_w]
      rfl
    refine last_ (i := 17) (N := none) #[true, true, true, true, true, true, true, true, true, true, true, true, true, true, true, true, true, true] rfl rfl (by kernel_rfl) (by decide) (fun K hK => ?_)
    obtain ⟨w4, hrun, hI, hT⟩ := HS.out W1.drew ((Turn.refl _ _).drew)
    refine skip_ (w1 := w4) (by rfl) rfl ?_ ?_
    · go_simp
    refine hK.out _ _ ?_
    clear hK K
    refine done_ (by kernel_rfl) ?_
    have k2 := hI.c2
    have z := fun j => blk_frozen hI.hb j
    have HI := Aside0.mk hI
    have HT := Aside0.mk hT
    clear hI hT c0 c1 c2 hln
    go_wp2_with fail
    go_ret
    have hs := blk_set HI.out.hb 2 (.int .i64 (c.since + 1))
    simp only [List.setIfInBounds_toArray, List.set_cons_zero, List.set_cons_succ] at hs
    have ht : Turn (fun k => k = g) w4 (w4.setCell ⟨g, 2, none⟩ (.int .i64 (c.since + 1))) := (Turn.refl (fun k => k = g) _).setCell (.inl rfl) _
    refine ⟨rfl, ⟨mb, hs, HI.out.map.turn ht HI.out.gm, HI.out.sg, HI.out.sm, fun k hk => Nat.lt_of_lt_of_le (HI.out.lt k hk) ht.size⟩, ?_⟩
    exact (HW.out.trans HT.out (fun k hk => .inl (hk ▸ H1.out.sm))).trans ht (fun k hk => .inl (hk ▸ H1.out.sg))
set_option maxHeartbeats 8000000 in
set_option maxRecDepth 100000 in
theorem clock_Set_arg {w : World} {g : Nat} {c : CK} {S : Nat → Prop} {key d : Int} (hk : (Lit.int .i64 key).wf = true) (hd : d < 1 ∨ d > 1099511627776) (h : IsClock g c w S) :
    Calls Try.prog 10 #[.pointer (some ⟨g, 0, none⟩), .int .i64 key, .int .i64 d] w fun e w' => e = .returned (.int .i64 2) ∧ Below w.heap.size w w' := by
  obtain ⟨mb, h⟩ := h
  have c1 := h.c1
  have hlk := h.look hk
  have hu := Try.underlying54
  have hd2 : decide (d < 1) = true ∨ (decide (d < 1) = false ∧ decide (d > 1099511627776) = true) := by
    by_cases h1 : d < 1
    · exact .inl (decide_eq_true h1)
    · exact .inr ⟨decide_eq_false h1, decide_eq_true (by omega)⟩
  clear h hd
  rcases hd2 with d1 | ⟨d1, d2⟩
  all_goals
    go_enter Try.func10, Try.ntmps10
    go_wp2_with fail
    go_ret
    exact ⟨rfl, ((Turn.refl (fun _ => False) w).alloc _).to_below⟩
set_option maxHeartbeats 8000000 in
set_option maxRecDepth 100000 in
theorem clock_Set_many {w : World} {g : Nat} {c : CK} {S : Nat → Prop} {key d : Int} (hk : (Lit.int .i64 key).wf = true) (h1 : 1 ≤ d) (h2 : d ≤ 1099511627776) (hf : hasK c.L key = false) (hl : c.L.length = 1000) (h : IsClock g c w S) :
    Calls Try.prog 10 #[.pointer (some ⟨g, 0, none⟩), .int .i64 key, .int .i64 d] w fun e w' => e = .returned (.int .i64 9) ∧ Below w.heap.size w w' := by
  obtain ⟨mb, h⟩ := h
  have c1 := h.c1
  have hlk := h.look hk
  rw [hf] at hlk
  have hu := Try.underlying54
  have d1 : decide (d < 1) = false := decide_eq_false (by omega)
  have d2 : decide (d > 1099511627776) = false := decide_eq_false (by omega)
  have H := Aside0.mk h
  have HLn := Aside0.mk hl
  clear h h1 h2 hl
  go_enter Try.func10, Try.ntmps10
  go_upto_region 4 with (fail)
  refine wp_world (fun W => ClockI W g mb c S ∧ Below w.heap.size w W) ⟨H.out.turn ((Turn.refl (fun _ => False) w).alloc _) (fun _ _ x => x), ((Turn.refl (fun _ => False) w).alloc _).to_below⟩ ?_
  rintro W1 ⟨h1, ht⟩
  have c1 := h1.c1
  have hln := h1.map.len Try.underlying50 3
  rw [HLn.out] at hln
  have HW := Aside0.mk ht
  clear h1 ht hlk H
  go_wp2_with fail
  go_ret
  exact ⟨rfl, HW.out⟩
end Go.Proofs.Ytbmommikjiikaaa.P
