/- A clock: Run; a row of rows; no conditions beyond small numbers. -/
import Derived.Test.YtbmommikjiikaaaGClockTwo
namespace Go.Proofs.Ytbmommikjiikaaa.P
open Go.RowKit Go.Proofs.YtbmommikjiikaaaW.PrintWords Go.Proofs.YtbmommikjiikaaaW.PrintLast Go.Proofs.YtbmommikjiikaaaW.PrintMore
set_option linter.unusedVariables false
set_option linter.unusedSimpArgs false
attribute [local go_sem] max_two min_two

/-- A slice that stands for itself. -/
structure Sl3 where
  a : Option Addr
  n : Nat
  c : Nat
def sl3 (t : Sl3) : Value := .slice t.a t.n t.c
def kSl : Kd Sl3 := Kd.scalar sl3 (fun _ => rfl)
theorem kSlE : kSl.E = [] := rfl
structure RowsX (w : World) (v : Value) (Ls : List (List Int)) (B : Nat) : Prop where
  rows : ∃ ts : List Sl3, RowX kSl 27 w v ts ∧ ts.length = Ls.length ∧ ∀ (j : Nat) (t : Sl3) (x : List Int), ts[j]? = some t → Ls[j]? = some x → RowX (Kd.int .i64) 3 w (sl3 t) x ∧ ∀ k, (sl3 t).ownBlock = some k → B ≤ k
  own : ∀ k, v.ownBlock = some k → B ≤ k
section
variable {w w1 : World} {v : Value} {Ls : List (List Int)} {B : Nat} {S : Nat → Prop}
theorem RowsX.nil (w : World) (B : Nat) : RowsX w (.slice none 0 0) [] B := ⟨⟨[], RowX.nil _ _ _, rfl, fun j t x h => by simp at h⟩, fun k hk => by simp [Value.ownBlock] at hk⟩
theorem RowsX.keep (h : RowsX w v Ls B) (hk : ∀ k, B ≤ k → k < w.heap.size → w1.heap[k]? = w.heap[k]?) : RowsX w1 v Ls B := by
  obtain ⟨⟨ts, h1, h2, h3⟩, h4⟩ := h
  refine ⟨⟨ts, h1.keep (fun k hk9 => hk k (h4 k hk9) (h1.lt hk9)), h2, fun j t x ht hx => ?_⟩, h4⟩
  obtain ⟨h5, h6⟩ := h3 j t x ht hx
  exact ⟨h5.keep (fun k hk9 => hk k (h6 k hk9) (h5.lt hk9)), h6⟩
theorem RowsX.turn (h : RowsX w v Ls B) (ht : Turn S w w1) (hs : ∀ k, S k → k < B) : RowsX w1 v Ls B :=
  h.keep (fun k hk hlt => ht.block k hlt (fun hS => by have := hs k hS; omega))
theorem RowsX.slice (h : RowsX w v Ls B) : ∃ A c, v = .slice A Ls.length c := by
  obtain ⟨⟨ts, h1, h2, h3⟩, h4⟩ := h
  obtain ⟨A, c, rfl, _, _⟩ := h1.reads
  exact ⟨A, c, by rw [h2]⟩
end
/-- The same, of whose blocks are in Y. -/
structure RowsY (w : World) (v : Value) (Ls : List (List Int)) (Y : Nat → Prop) : Prop where
  rows : ∃ ts : List Sl3, RowX kSl 27 w v ts ∧ ts.length = Ls.length ∧ ∀ (j : Nat) (t : Sl3) (x : List Int), ts[j]? = some t → Ls[j]? = some x → RowX (Kd.int .i64) 3 w (sl3 t) x ∧ ∀ k, (sl3 t).ownBlock = some k → Y k
  own : ∀ k, v.ownBlock = some k → Y k
theorem RowsX.toY {w : World} {v : Value} {Ls : List (List Int)} {B : Nat} (h : RowsX w v Ls B) : RowsY w v Ls (fun k => B ≤ k ∧ k < w.heap.size) := by
  obtain ⟨⟨ts, h1, h2, h3⟩, h4⟩ := h
  refine ⟨⟨ts, h1, h2, fun j t x ht hx => ?_⟩, fun k hk => ⟨h4 k hk, h1.lt hk⟩⟩
  obtain ⟨h5, h6⟩ := h3 j t x ht hx
  exact ⟨h5, fun k hk => ⟨h6 k hk, h5.lt hk⟩⟩
theorem RowsY.keep {w w1 : World} {v : Value} {Ls : List (List Int)} {Y : Nat → Prop} (h : RowsY w v Ls Y) (hk : ∀ k, Y k → w1.heap[k]? = w.heap[k]?) : RowsY w1 v Ls Y := by
  obtain ⟨⟨ts, h1, h2, h3⟩, h4⟩ := h
  refine ⟨⟨ts, h1.keep (fun k hk9 => hk k (h4 k hk9)), h2, fun j t x ht hx => ?_⟩, h4⟩
  obtain ⟨h5, h6⟩ := h3 j t x ht hx
  exact ⟨h5.keep (fun k hk9 => hk k (h6 k hk9)), h6⟩
theorem RowsY.at_ {w : World} {v : Value} {Ls : List (List Int)} {Y : Nat → Prop} (h : RowsY w v Ls Y) {j : Nat} {x : List Int} (hx : Ls[j]? = some x) : ∃ b c, v = .slice (some ⟨b, 0, none⟩) Ls.length c ∧ ∃ u, w.cell? ⟨b, j, none⟩ = some u ∧ RowX (Kd.int .i64) 3 w u x ∧ ∀ k, u.ownBlock = some k → Y k := by
  obtain ⟨⟨ts, h1, h2, h3⟩, h4⟩ := h
  have hj : j < ts.length := by rw [h2]; exact (List.getElem?_eq_some_iff.1 hx).1
  obtain ⟨t, ht⟩ : ∃ t, ts[j]? = some t := ⟨_, List.getElem?_eq_getElem hj⟩
  obtain ⟨A, c, rfl, _, hC⟩ := h1.reads
  obtain ⟨ad, cs, rfl, _, hK, hc0⟩ := Kd.C_get hC t j (by omega) (by omega)
  obtain ⟨b, rfl⟩ := Kd.R_head h1
  refine ⟨b, c, by rw [h2], sl3 t, ?_, h3 j t x ht hx⟩
  have hg : ts.getD (j : Int).toNat t = t := by rw [Int.toNat_natCast, List.getD_eq_getElem?_getD, ht]; rfl
  rw [hg] at hK
  have hcs : cs = [sl3 t] := hK
  subst hcs
  have := hc0 0 (sl3 t) rfl
  have e : (⟨b, 0, none⟩ : Addr).add ((j : Int).toNat * kSl.sz) = ⟨b, j, none⟩ := by
    have : kSl.sz = 1 := rfl
    rw [this, Int.toNat_natCast]
    unfold Addr.add
    split <;> simp_all
  have e2 : (⟨b, 0, none⟩ : Addr).add ((j : Int).toNat * kSl.sz + 0) = ⟨b, j, none⟩ := by rw [Nat.add_zero, e]
  first | (rw [← e]; exact this) | (rw [← e2]; exact this)
theorem RowsY.slice {w : World} {v : Value} {Ls : List (List Int)} {Y : Nat → Prop} (h : RowsY w v Ls Y) : ∃ A c, v = .slice A Ls.length c := by
  obtain ⟨⟨ts, h1, h2, h3⟩, h4⟩ := h
  obtain ⟨A, c, rfl, _, _⟩ := h1.reads
  exact ⟨A, c, by rw [h2]⟩
def ticksC (c : CK) : Nat → CK
  | 0 => c
  | n + 1 => tickC (ticksC c n)
def rowC (c : CK) : List Int := (dueL c.L (c.now + 1)).map (·.key)
def runL (c : CK) : Nat → List (List Int)
  | 0 => []
  | n + 1 => runL c n ++ [rowC (ticksC c n)]
theorem runL_len (c : CK) : ∀ n, (runL c n).length = n
  | 0 => rfl
  | n + 1 => by rw [runL, List.length_append, runL_len c n]; rfl
theorem runL_at (c : CK) : ∀ {n j : Nat}, j < n → (runL c n)[j]? = some (rowC (ticksC c j))
  | 0, j, h => by omega
  | n + 1, j, h => by
    rw [runL]
    by_cases hj : j < n
    · rw [List.getElem?_append_left (by rw [runL_len]; exact hj)]
      exact runL_at c hj
    · obtain rfl : j = n := by omega
      rw [List.getElem?_append_right (by rw [runL_len]; exact Nat.le_refl _), runL_len, Nat.sub_self]
      rfl
theorem ticksC_now (c : CK) : ∀ n : Nat, (ticksC c n).now = c.now + n
  | 0 => by simp [ticksC]
  | n + 1 => by
    show (ticksC c n).now + 1 = _
    rw [ticksC_now c n]
    omega
theorem ticksC_since (c : CK) : ∀ n : Nat, (ticksC c n).since = c.since
  | 0 => rfl
  | n + 1 => by
    show (ticksC c n).since = _
    exact ticksC_since c n
theorem ticks_ok {c : CK} (h : COk c) : ∀ n : Nat, c.now + n ≤ 1125899906842624 → COk (ticksC c n)
  | 0, _ => h
  | n + 1, hn => (ticks_ok h n (by omega)).tick (by rw [ticksC_now]; omega)
theorem info27' : (Try.prog.info? 27).map (fun i => (i.zero, i.size, i.bytes)) = some (some (.slice none 0 0), 1, 24) := by kernel_rfl
set_option maxHeartbeats 8000000 in
set_option maxRecDepth 100000 in
theorem clock_Run {w : World} {g : Nat} {c : CK} {S : Nat → Prop} (m : Int) (n : Nat) (hn : n ≤ 1000) (h1 : m < 0 → n = 0) (h2 : 0 ≤ m → m ≤ 1000 → (n : Int) = m) (h3 : 1000 < m → n = 1000) (ok : COk c) (hm : c.now ≤ 1125899906840000) (h : IsClock g c w S) :
    Calls Try.prog 19 #[.pointer (some ⟨g, 0, none⟩), .int .i64 m] w fun e w' => ∃ v, e = .returned v ∧ RowsX w' v (runL c n) w.heap.size ∧ IsClock g (ticksC c n) w' S ∧ Turn S w w' := by
  obtain ⟨p, hp⟩ : ∃ p : Int, p = if m < 0 then 0 else m := ⟨_, rfl⟩
  have e1 : Builtin.max2 (.int .i64 m) (.int .i64 0) = pure (.int .i64 p) := by rw [max2_int, hp]
  have e2 : Builtin.min2 (.int .i64 p) (.int .i64 1000) = pure (.int .i64 (n : Int)) := by
    rw [min2_int]
    congr 2
    split at hp <;> split <;> omega
  have H := Aside0.mk h
  have OK := Aside0.mk ok
  have HM := Aside0.mk hm
  have HN := Aside0.mk hn
  clear h ok hm hn hp h1 h2 h3
  go_enter Try.func19, Try.ntmps19
  go_wp2_with fail
  clear e1 e2
  go_loopw [5, 12] (fun v5 v12 wr => ∃ j : Nat, j ≤ n ∧ v12 = .int .i64 j ∧ Aside0 (RowsX wr v5 (runL c j) w.heap.size ∧ IsClock g (ticksC c j) wr S ∧ Turn S w wr)) (fun _ y _ => n + 1 - (intOf y).toNat)
  case atStart => exact ⟨0, by omega, rfl, ⟨RowsX.nil _ _, H.out, Turn.refl _ _⟩⟩
  case round =>
    obtain ⟨j, hj, rfl, HQ⟩ := hrel
    by_cases hlt : j < n
    · have d1 : decide ((j : Int) < (n : Int)) = true := decide_eq_true (by omega)
      have HW := Aside0.mk (show wrap64 ((j : Int) + 1) = ((j + 1 : Nat) : Int) from wrap_succ j (by have := HN.out; omega))
      have HMs := Aside0.mk (meas_succ hlt (by have := HN.out; omega))
      go_wp2_with fail
      refine (clock_Tick (ticks_ok OK.out j (by have := HM.out; have := HN.out; omega)) (by rw [ticksC_now]; have := HM.out; have := HN.out; omega) HQ.out.2.1).mono ?_
      rintro e w7 ⟨v7, rfl, hx, hv, hc, ht⟩
      obtain ⟨A7, c7, rfl, _, _⟩ := hx.reads
      have HX := Aside0.mk hx
      have HV := Aside0.mk (fun k hk => Nat.le_trans HQ.out.2.2.size (hv k hk))
      have HC := Aside0.mk hc
      have HT := Aside0.mk (HQ.out.2.2.then_ ht)
      have HR := Aside0.mk (HQ.out.1.turn ht (fun k hk => H.out.lt k hk))
      obtain ⟨⟨ts, r1, r2, r3⟩, r4⟩ := HR.out
      have R1 := Aside0.mk r1
      have R2 := Aside0.mk r2
      have R3 := Aside0.mk r3
      have R4 := Aside0.mk r4
      clear hx hv hc ht r1 r2 r3 r4 HR
      have HLt := Aside0.mk (show ts.length = j by rw [R2.out, runL_len])
      generalize hl7 : (List.map (fun x : En => x.key) (dueL (ticksC c j).L ((ticksC c j).now + 1))).length = L7 at *
      have HL7 := Aside0.mk hl7
      clear hl7
      go_wp2_with (at_builtin; go_loud (refine Kd.R_append kSl (W := w7) (w0 := w7) 0 rfl (.tmp 14) (.tmp 17) 44 27 (.slice none 0 0) 24 rfl Try.underlying44 info27' rfl (by decide) (by decide) u5 ts ⟨A7, L7, c7⟩ [Value.slice A7 L7 c7] (fun x => u5.ownBlock = some x ∨ w7.heap.size ≤ x) (fun _ => False) rfl rfl rfl (fun _ hk => hk.elim) (fun x hx => .inr hx) (R1.out.R (fun x hx => .inl hx)) (Below.refl _ _) (Nat.zero_le _) (by have := HLt.out; have := HN.out; omega) ?_))
      intro v8 w8 hR hB hg hat
      have T8 : Turn (fun k => u5.ownBlock = some k) w7 w8 := (Turn.refl _ w7).grown hg (fun k hk => .inl hk)
      have hX8 := RowX.of_R kSlE hR
      have hne : ∀ (t : Sl3) (x : List Int), RowX (Kd.int .i64) 3 w7 (sl3 t) x → ∀ k, (sl3 t).ownBlock = some k → ¬ u5.ownBlock = some k := fun t x ht k hk h5 => by
        obtain ⟨cs, hcs⟩ := R1.out.typed h5
        exact ht.ne_cells hcs (by decide) hk
      have HR8 := Aside0.mk (show RowsX w8 v8 (runL c (j + 1)) w.heap.size by
        refine ⟨⟨ts ++ [⟨A7, L7, c7⟩], hX8, by rw [List.length_append, runL, List.length_append, R2.out]; rfl, fun i t x ht hx => ?_⟩, fun k hk => ?_⟩
        · rw [runL] at hx
          by_cases hi : i < ts.length
          · rw [List.getElem?_append_left hi] at ht
            rw [List.getElem?_append_left (by rw [← R2.out]; exact hi)] at hx
            obtain ⟨h1, h2⟩ := R3.out i t x ht hx
            exact ⟨h1.turn T8 (hne t x h1), h2⟩
          · rw [List.getElem?_append_right (by omega)] at ht
            rw [List.getElem?_append_right (by rw [← R2.out]; omega), ← R2.out] at hx
            have hi0 : i - ts.length = 0 := by
              have := (List.getElem?_eq_some_iff.1 ht).1
              simp at this
              omega
            rw [hi0] at ht hx
            simp only [List.getElem?_cons_zero, Option.some.injEq] at ht hx
            subst ht
            subst hx
            exact ⟨HX.out.turn T8 (hne ⟨A7, L7, c7⟩ _ HX.out), HV.out⟩
        · rcases hat with h | ⟨b, hb, hl⟩
          · exact R4.out k (by rw [← h]; exact hk)
          · rw [hb] at hk
            cases hk
            exact Nat.le_trans HT.out.size hl)
      have hS5 : ∀ k, S k → ¬ u5.ownBlock = some k := fun k hk h5 => by
        have h1 := H.out.lt k hk
        have h2 := R4.out k h5
        omega
      have HC8 := Aside0.mk (HC.out.turn T8 hS5)
      have HT8 := Aside0.mk (HT.out.trans T8 (fun k hk => .inr (R4.out k hk)))
      clear hR hB hg hat T8 hX8 hne hS5
      go_wp2_with fail
      exact ⟨⟨j + 1, by omega, congrArg _ HW.out, ⟨HR8.out, HC8.out, HT8.out⟩⟩, HMs.out⟩
    · obtain rfl : j = n := by omega
      have d1 : decide ((j : Int) < (j : Int)) = false := decide_eq_false (by omega)
      go_wp2_with fail
      go_ret
      exact ⟨_, rfl, HQ.out.1, HQ.out.2.1, HQ.out.2.2⟩
end Go.Proofs.Ytbmommikjiikaaa.P
