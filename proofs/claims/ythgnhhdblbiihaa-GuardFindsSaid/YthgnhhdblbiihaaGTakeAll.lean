/- Several texts of this session's own as one. -/
import Derived.Test.YthgnhhdblbiihaaPguardNew
import Derived.Test.YthgnhhdblbiihaaGGuardLaws
import Derived.Test.YthgnhhdblbiihaaGBase
import Derived.Test.YthgnhhdblbiihaaGTreeAll
namespace Go.Proofs.Ythgnhhdblbiihaa.P
open Go.RowKit Go.Proofs.YthgnhhdblbiihaaW.PrintWords Go.Proofs.YthgnhhdblbiihaaW.PrintLast Go.Proofs.YthgnhhdblbiihaaW.PrintMore
set_option linter.unusedVariables false
set_option linter.unusedSimpArgs false

def wordL : List ByteArray := [⟨#[]⟩, ⟨#[103, 111, 111, 100]⟩, ⟨#[97, 103, 97, 105, 110]⟩, ⟨#[108, 111, 115, 116]⟩, ⟨#[119, 114, 111, 110, 103]⟩, ⟨#[98, 114, 111, 107, 101, 110]⟩]
def guard_Word.f (a0 : Int) : Option ByteArray := some (if 0 ≤ a0 ∧ a0 < 6 then wordL.getD a0.toNat ⟨#[]⟩ else ⟨#[]⟩)
set_option maxHeartbeats 4000000 in
set_option maxRecDepth 100000 in
theorem guard_Word.calls (a0 : Int) (r : ByteArray) (w : World) (h : guard_Word.f a0 = some r) :
    Calls Try.prog 27 #[.int .i64 a0] w fun e w' => e = .returned (.string r) ∧ Below w.heap.size w w' := by
  unfold guard_Word.f at h
  by_cases h0 : a0 < 0
  · rw [if_neg (by omega)] at h
    obtain rfl := Option.some.inj h
    have t0 : decide (a0 < 0) = true := decide_eq_true h0
    clear h h0
    go_enter Try.func27, Try.ntmps27
    go_wp2
    go_ret
    exact ⟨rfl, (Below.refl _ w).alloc (Nat.le_refl _) _⟩
  have t0 : decide (a0 < 0) = false := decide_eq_false h0
  by_cases h1 : a0 ≥ 6
  · rw [if_neg (by omega)] at h
    obtain rfl := Option.some.inj h
    have t1 : decide (a0 ≥ 6) = true := decide_eq_true h1
    clear h h0 h1
    go_enter Try.func27, Try.ntmps27
    go_wp2
    go_ret
    exact ⟨rfl, (Below.refl _ w).alloc (Nat.le_refl _) _⟩
  rw [if_pos (by omega)] at h
  obtain rfl := Option.some.inj h
  clear h t0
  obtain rfl | rfl | rfl | rfl | rfl | rfl : a0 = 0 ∨ a0 = 1 ∨ a0 = 2 ∨ a0 = 3 ∨ a0 = 4 ∨ a0 = 5 := by omega
  all_goals
    clear h0 h1
    go_enter Try.func27, Try.ntmps27
    go_wp2
    go_ret
    exact ⟨rfl, (Below.refl _ w).alloc (Nat.le_refl _) _⟩

def guard_Guard_Last.f (s0 s1 s2 : Int) (s3 : Bool) (s4 s5 s6 s7 s8 : Int) : Option (Int × Bool × Int × Int × Int × Bool × Int × Int × Int × Int × Int) :=
  some (if s3 = true then s2 else 0, s3, s0, s1, s2, s3, s4, s5, s6, s7, s8)
set_option maxHeartbeats 4000000 in
set_option maxRecDepth 100000 in
theorem guard_Guard_Last.calls (g : Nat) (s0 s1 s2 : Int) (s3 : Bool) (s4 s5 s6 s7 s8 : Int) (r1 : Int) (r2 : Bool) (r3 r4 r5 : Int) (r6 : Bool) (r7 r8 r9 r10 r11 : Int) (w0 w : World) (hI : IsS87 w0 w g s0 s1 s2 s3 s4 s5 s6 s7 s8) (hB : Below w0.heap.size w0 w)
    (h : guard_Guard_Last.f s0 s1 s2 s3 s4 s5 s6 s7 s8 = some (r1, r2, r3, r4, r5, r6, r7, r8, r9, r10, r11)) :
    Calls Try.prog 23 #[.pointer (some ⟨g, 0, none⟩)] w fun e w' => e = .returned (.tuple #[.int .i64 r1, .bool r2]) ∧ IsS87 w0 w' g r3 r4 r5 r6 r7 r8 r9 r10 r11 ∧ Below w0.heap.size w0 w' ∧ KeepBut w w' g none := by
  have HI := Aside0.mk hI
  have HB := Aside0.mk hB
  have hu := Try.underlying87
  obtain ⟨hg, hge⟩ := hI
  have c2 := cellS87_2 hg
  have c3 := cellS87_3 hg
  clear hB hg
  unfold guard_Guard_Last.f at h
  simp only [Option.some.injEq, Prod.mk.injEq] at h
  obtain ⟨e1, rfl, rfl, rfl, rfl, e6, rfl, rfl, rfl, rfl, rfl⟩ := h
  cases s3 with
  | true =>
    subst e6
    rw [if_pos rfl] at e1
    subst e1
    go_enter Try.func23, Try.ntmps23
    go_wp2
    go_ret2
    exact ⟨rfl, HI.out, HB.out, KeepBut.refl _ _ _⟩
  | false =>
    subst e6
    rw [if_neg (by decide)] at e1
    subst e1
    go_enter Try.func23, Try.ntmps23
    go_wp2
    go_ret2
    exact ⟨rfl, HI.out, HB.out, KeepBut.refl _ _ _⟩
def guard_Guard_Count.f (s0 s1 s2 : Int) (s3 : Bool) (s4 s5 s6 s7 s8 : Int) : Option (Int × Int × Int × Int × Int × Int × Int × Int × Bool × Int × Int × Int × Int × Int) :=
  some (s4, s5, s6, s7, s8, s0, s1, s2, s3, s4, s5, s6, s7, s8)
set_option maxHeartbeats 4000000 in
set_option maxRecDepth 100000 in
theorem guard_Guard_Count.calls (g : Nat) (s0 s1 s2 : Int) (s3 : Bool) (s4 s5 s6 s7 s8 : Int) (r1 r2 r3 r4 r5 r6 r7 r8 : Int) (r9 : Bool) (r10 r11 r12 r13 r14 : Int) (w0 w : World) (hI : IsS87 w0 w g s0 s1 s2 s3 s4 s5 s6 s7 s8) (hB : Below w0.heap.size w0 w)
    (h : guard_Guard_Count.f s0 s1 s2 s3 s4 s5 s6 s7 s8 = some (r1, r2, r3, r4, r5, r6, r7, r8, r9, r10, r11, r12, r13, r14)) :
    Calls Try.prog 22 #[.pointer (some ⟨g, 0, none⟩)] w fun e w' => e = .returned (.agg #[.int .i64 r1, .int .i64 r2, .int .i64 r3, .int .i64 r4, .int .i64 r5]) ∧ IsS87 w0 w' g r6 r7 r8 r9 r10 r11 r12 r13 r14 ∧ Below w0.heap.size w0 w' ∧ KeepBut w w' g none := by
  have HI := Aside0.mk hI
  have HB := Aside0.mk hB
  have hu := Try.underlying87
  have huc := Try.underlying47
  obtain ⟨hg, hge⟩ := hI
  have hg1 := (IsS87.alloc HI.out (.cells #[.int .i64 0, .int .i64 0, .int .i64 0, .int .i64 0, .int .i64 0] 47)).1
  have d4 := cellS87_4 hg1
  have d5 := cellS87_5 hg1
  have d6 := cellS87_6 hg1
  have d7 := cellS87_7 hg1
  have d8 := cellS87_8 hg1
  have c4 := cellS87_4 hg
  have c5 := cellS87_5 hg
  have c6 := cellS87_6 hg
  have c7 := cellS87_7 hg
  have c8 := cellS87_8 hg
  clear hB hg hg1
  unfold guard_Guard_Count.f at h
  simp only [Option.some.injEq, Prod.mk.injEq] at h
  obtain ⟨rfl, rfl, rfl, rfl, rfl, rfl, rfl, rfl, rfl, rfl, rfl, rfl, rfl, rfl⟩ := h
  go_enter Try.func22, Try.ntmps22
  go_wp2
  refine bodyPost_ret (results_c1 (by rfl) _ _ w.heap.size 47 #[.int .i64 s4, .int .i64 s5, .int .i64 s6, .int .i64 s7, .int .i64 s8] (0, 0) _ (by rfl) (by exact blk_new _ _) huc (by rfl) (by kernel_rfl)) rfl ?_
  exact ⟨rfl, IsS87.alloc HI.out _, HB.out.alloc HB.out.size _, KeepBut.of_below ((Below.refl _ w).alloc (Nat.le_refl _) _) _ _⟩
end Go.Proofs.Ythgnhhdblbiihaa.P

namespace Go.Proofs.Ythgnhhdblbiihaa.P
open Go.RowKit Go.Proofs.YthgnhhdblbiihaaW.PrintWords Go.Proofs.YthgnhhdblbiihaaW.PrintLast Go.Proofs.YthgnhhdblbiihaaW.PrintMore
set_option linter.unusedVariables false
set_option linter.unusedSimpArgs false

/-- The verdict on a counter. -/
def judgeP (s1 s2 : Int) (s3 : Bool) (c : Int) : Int :=
  let a := Int.tmod (wrap64 (wrap64 (c - s2) + 15)) 15
  if s3 = false ∨ a = 1 then 1 else if a = 0 then 2 else if a ≤ wrap64 (s1 + 1) then 3 else 4
theorem judge_f (k : Nat) (s0 s1 s2 : Int) (s3 : Bool) (s4 s5 s6 s7 s8 c : Int) : guard_Guard_judge.f (k + 1) s0 s1 s2 s3 s4 s5 s6 s7 s8 c = some (judgeP s1 s2 s3 c, s0, s1, s2, s3, s4, s5, s6, s7, s8) := by
  unfold guard_Guard_judge.f guard_Guard_judge.j0 judgeP
  dsimp only
  generalize Int.tmod (wrap64 (wrap64 (c - s2) + 15)) 15 = a
  cases s3 with
  | false => simp
  | true =>
    by_cases h1 : a = 1
    · simp [h1]
    · have : (a == 1) = false := by simpa using h1
      simp only [if_true, this, h1]
      by_cases h2 : a = 0
      · simp [h2]
      · by_cases h3 : a ≤ wrap64 (s1 + 1)
        · simp [h2, h3]
        · simp [h2, h3]
def tick (v : Int) (j i : Nat) (s : Int) : Int := if v = (j : Int) + 1 ∧ j < i then wrap64 (s + 1) else s
/-- A guard's state behind data. -/
def verdictP (s0 s1 s2 : Int) (s3 : Bool) (t : ByteArray) : Int := if (openP s0 t).2.2 = 0 then judgeP s1 s2 s3 (openP s0 t).1 else 5
def guard_Guard_Take.f (s0 s1 s2 : Int) (s3 : Bool) (s4 s5 s6 s7 s8 : Int) (t : ByteArray) : Option (Int × Int × Int × Int × Bool × Int × Int × Int × Int × Int) :=
  if t.size ≤ 4611686018427387904 then
    some (verdictP s0 s1 s2 s3 t, s0, s1, if (openP s0 t).2.2 = 0 then (openP s0 t).1 else s2, if (openP s0 t).2.2 = 0 then true else s3,
      tick (verdictP s0 s1 s2 s3 t) 0 5 s4, tick (verdictP s0 s1 s2 s3 t) 1 5 s5, tick (verdictP s0 s1 s2 s3 t) 2 5 s6, tick (verdictP s0 s1 s2 s3 t) 3 5 s7, tick (verdictP s0 s1 s2 s3 t) 4 5 s8)
  else none
theorem keep_set {w w1 : World} {g V : Nat} {row : Option Nat} (h : KeepBut w w1 g row) (hV : w.heap.size ≤ V) (j : Nat) (u : Value) : KeepBut w (w1.setCell ⟨V, j, none⟩ u) g row :=
  ⟨by have := h.1; simpa using this, fun i hi hg hr => by rw [Below.heap_setCell w1 ⟨V, j, none⟩ u i (by show i ≠ V; omega)]; exact h.2 i hi hg hr⟩

set_option maxHeartbeats 4000000 in
set_option maxRecDepth 100000 in
theorem tell.calls (kind v x : Int) (V g off : Nat) (w : World) (hV : w.cell? ⟨V, 0, none⟩ = some (.int .i64 v)) (hx : w.cell? ⟨g, off, none⟩ = some (.int .i64 x)) (hf : w.frozen? ⟨g, off, none⟩ = false) :
    Calls Try.prog 44 #[.int .i64 kind, .pointer (some ⟨g, off, none⟩), .pointer (some ⟨V, 0, none⟩)] w fun e w' => e = .returned (.tuple #[]) ∧ w' = if v = kind then w.setCell ⟨g, off, none⟩ (.int .i64 (wrap64 (x + 1))) else w := by
  by_cases h : v = kind
  · have t1 : (v == kind) = true := by simpa using h
    rw [if_pos h]
    clear h
    go_enter Try.func44, Try.ntmps44
    go_wp2
    go_end0
    exact ⟨rfl, rfl⟩
  · have t1 : (v == kind) = false := by simpa using h
    rw [if_neg h]
    clear h
    go_enter Try.func44, Try.ntmps44
    go_wp2
    go_end0
    exact ⟨rfl, rfl⟩

theorem take_step0 {w0 w wr w3 : World} {g V : Nat} {v s0 s1 s2 : Int} {s3 : Bool} {s4 s5 s6 s7 s8 : Int} (HV : Aside0 (wr.heap[V]? = some (.cells #[.int .i64 v] 3 (0, 0)))) (HI : Aside0 (IsS87 w0 wr g s0 s1 s2 s3 (tick v 0 0 s4) (tick v 1 0 s5) (tick v 2 0 s6) (tick v 3 0 s7) (tick v 4 0 s8)))
    (HB : Aside0 (Below w0.heap.size w0 wr)) (HK : Aside0 (KeepBut w wr g none)) (h3 : w3 = if v = 1 then wr.setCell ⟨g, 4, none⟩ (.int .i64 (wrap64 (tick v 0 0 s4 + 1))) else wr) :
    Aside0 (w3.heap[V]? = some (.cells #[.int .i64 v] 3 (0, 0))) ∧ Aside0 (IsS87 w0 w3 g s0 s1 s2 s3 (tick v 0 1 s4) (tick v 1 1 s5) (tick v 2 1 s6) (tick v 3 1 s7) (tick v 4 1 s8)) ∧ Aside0 (Below w0.heap.size w0 w3) ∧ Aside0 (KeepBut w w3 g none) := by
  have hI := HI.out
  by_cases hv : v = 1
  · rw [if_pos hv] at h3
    subst h3
    have hne := IsS87.ne_blk hI HV.out (by decide)
    refine ⟨⟨(Below.heap_setCell wr _ _ V (fun e => hne e.symm)).trans HV.out⟩, ⟨?_⟩, ⟨HB.out.setCell (p := ⟨g, 4, none⟩) (IsS87.ge hI) _⟩, ⟨HK.out.set_ 4 _⟩⟩
    have h := IsS87.set_4 hI (wrap64 (tick v 0 0 s4 + 1))
    simpa [tick, hv] using h
  · rw [if_neg hv] at h3
    subst h3
    refine ⟨HV, ⟨?_⟩, HB, HK⟩
    have hv' : ¬ v = ((0 : Nat) : Int) + 1 := by omega
    simpa [tick, hv, hv'] using hI
theorem take_step1 {w0 w wr w3 : World} {g V : Nat} {v s0 s1 s2 : Int} {s3 : Bool} {s4 s5 s6 s7 s8 : Int} (HV : Aside0 (wr.heap[V]? = some (.cells #[.int .i64 v] 3 (0, 0)))) (HI : Aside0 (IsS87 w0 wr g s0 s1 s2 s3 (tick v 0 1 s4) (tick v 1 1 s5) (tick v 2 1 s6) (tick v 3 1 s7) (tick v 4 1 s8)))
    (HB : Aside0 (Below w0.heap.size w0 wr)) (HK : Aside0 (KeepBut w wr g none)) (h3 : w3 = if v = 2 then wr.setCell ⟨g, 5, none⟩ (.int .i64 (wrap64 (tick v 1 1 s5 + 1))) else wr) :
    Aside0 (w3.heap[V]? = some (.cells #[.int .i64 v] 3 (0, 0))) ∧ Aside0 (IsS87 w0 w3 g s0 s1 s2 s3 (tick v 0 2 s4) (tick v 1 2 s5) (tick v 2 2 s6) (tick v 3 2 s7) (tick v 4 2 s8)) ∧ Aside0 (Below w0.heap.size w0 w3) ∧ Aside0 (KeepBut w w3 g none) := by
  have hI := HI.out
  by_cases hv : v = 2
  · rw [if_pos hv] at h3
    subst h3
    have hne := IsS87.ne_blk hI HV.out (by decide)
    refine ⟨⟨(Below.heap_setCell wr _ _ V (fun e => hne e.symm)).trans HV.out⟩, ⟨?_⟩, ⟨HB.out.setCell (p := ⟨g, 5, none⟩) (IsS87.ge hI) _⟩, ⟨HK.out.set_ 5 _⟩⟩
    have h := IsS87.set_5 hI (wrap64 (tick v 1 1 s5 + 1))
    simpa [tick, hv] using h
  · rw [if_neg hv] at h3
    subst h3
    refine ⟨HV, ⟨?_⟩, HB, HK⟩
    have hv' : ¬ v = ((1 : Nat) : Int) + 1 := by omega
    simpa [tick, hv, hv'] using hI
theorem take_step2 {w0 w wr w3 : World} {g V : Nat} {v s0 s1 s2 : Int} {s3 : Bool} {s4 s5 s6 s7 s8 : Int} (HV : Aside0 (wr.heap[V]? = some (.cells #[.int .i64 v] 3 (0, 0)))) (HI : Aside0 (IsS87 w0 wr g s0 s1 s2 s3 (tick v 0 2 s4) (tick v 1 2 s5) (tick v 2 2 s6) (tick v 3 2 s7) (tick v 4 2 s8)))
    (HB : Aside0 (Below w0.heap.size w0 wr)) (HK : Aside0 (KeepBut w wr g none)) (h3 : w3 = if v = 3 then wr.setCell ⟨g, 6, none⟩ (.int .i64 (wrap64 (tick v 2 2 s6 + 1))) else wr) :
    Aside0 (w3.heap[V]? = some (.cells #[.int .i64 v] 3 (0, 0))) ∧ Aside0 (IsS87 w0 w3 g s0 s1 s2 s3 (tick v 0 3 s4) (tick v 1 3 s5) (tick v 2 3 s6) (tick v 3 3 s7) (tick v 4 3 s8)) ∧ Aside0 (Below w0.heap.size w0 w3) ∧ Aside0 (KeepBut w w3 g none) := by
  have hI := HI.out
  by_cases hv : v = 3
  · rw [if_pos hv] at h3
    subst h3
    have hne := IsS87.ne_blk hI HV.out (by decide)
    refine ⟨⟨(Below.heap_setCell wr _ _ V (fun e => hne e.symm)).trans HV.out⟩, ⟨?_⟩, ⟨HB.out.setCell (p := ⟨g, 6, none⟩) (IsS87.ge hI) _⟩, ⟨HK.out.set_ 6 _⟩⟩
    have h := IsS87.set_6 hI (wrap64 (tick v 2 2 s6 + 1))
    simpa [tick, hv] using h
  · rw [if_neg hv] at h3
    subst h3
    refine ⟨HV, ⟨?_⟩, HB, HK⟩
    have hv' : ¬ v = ((2 : Nat) : Int) + 1 := by omega
    simpa [tick, hv, hv'] using hI
theorem take_step3 {w0 w wr w3 : World} {g V : Nat} {v s0 s1 s2 : Int} {s3 : Bool} {s4 s5 s6 s7 s8 : Int} (HV : Aside0 (wr.heap[V]? = some (.cells #[.int .i64 v] 3 (0, 0)))) (HI : Aside0 (IsS87 w0 wr g s0 s1 s2 s3 (tick v 0 3 s4) (tick v 1 3 s5) (tick v 2 3 s6) (tick v 3 3 s7) (tick v 4 3 s8)))
    (HB : Aside0 (Below w0.heap.size w0 wr)) (HK : Aside0 (KeepBut w wr g none)) (h3 : w3 = if v = 4 then wr.setCell ⟨g, 7, none⟩ (.int .i64 (wrap64 (tick v 3 3 s7 + 1))) else wr) :
    Aside0 (w3.heap[V]? = some (.cells #[.int .i64 v] 3 (0, 0))) ∧ Aside0 (IsS87 w0 w3 g s0 s1 s2 s3 (tick v 0 4 s4) (tick v 1 4 s5) (tick v 2 4 s6) (tick v 3 4 s7) (tick v 4 4 s8)) ∧ Aside0 (Below w0.heap.size w0 w3) ∧ Aside0 (KeepBut w w3 g none) := by
  have hI := HI.out
  by_cases hv : v = 4
  · rw [if_pos hv] at h3
    subst h3
    have hne := IsS87.ne_blk hI HV.out (by decide)
    refine ⟨⟨(Below.heap_setCell wr _ _ V (fun e => hne e.symm)).trans HV.out⟩, ⟨?_⟩, ⟨HB.out.setCell (p := ⟨g, 7, none⟩) (IsS87.ge hI) _⟩, ⟨HK.out.set_ 7 _⟩⟩
    have h := IsS87.set_7 hI (wrap64 (tick v 3 3 s7 + 1))
    simpa [tick, hv] using h
  · rw [if_neg hv] at h3
    subst h3
    refine ⟨HV, ⟨?_⟩, HB, HK⟩
    have hv' : ¬ v = ((3 : Nat) : Int) + 1 := by omega
    simpa [tick, hv, hv'] using hI
theorem take_step4 {w0 w wr w3 : World} {g V : Nat} {v s0 s1 s2 : Int} {s3 : Bool} {s4 s5 s6 s7 s8 : Int} (HV : Aside0 (wr.heap[V]? = some (.cells #[.int .i64 v] 3 (0, 0)))) (HI : Aside0 (IsS87 w0 wr g s0 s1 s2 s3 (tick v 0 4 s4) (tick v 1 4 s5) (tick v 2 4 s6) (tick v 3 4 s7) (tick v 4 4 s8)))
    (HB : Aside0 (Below w0.heap.size w0 wr)) (HK : Aside0 (KeepBut w wr g none)) (h3 : w3 = if v = 5 then wr.setCell ⟨g, 8, none⟩ (.int .i64 (wrap64 (tick v 4 4 s8 + 1))) else wr) :
    Aside0 (w3.heap[V]? = some (.cells #[.int .i64 v] 3 (0, 0))) ∧ Aside0 (IsS87 w0 w3 g s0 s1 s2 s3 (tick v 0 5 s4) (tick v 1 5 s5) (tick v 2 5 s6) (tick v 3 5 s7) (tick v 4 5 s8)) ∧ Aside0 (Below w0.heap.size w0 w3) ∧ Aside0 (KeepBut w w3 g none) := by
  have hI := HI.out
  by_cases hv : v = 5
  · rw [if_pos hv] at h3
    subst h3
    have hne := IsS87.ne_blk hI HV.out (by decide)
    refine ⟨⟨(Below.heap_setCell wr _ _ V (fun e => hne e.symm)).trans HV.out⟩, ⟨?_⟩, ⟨HB.out.setCell (p := ⟨g, 8, none⟩) (IsS87.ge hI) _⟩, ⟨HK.out.set_ 8 _⟩⟩
    have h := IsS87.set_8 hI (wrap64 (tick v 4 4 s8 + 1))
    simpa [tick, hv] using h
  · rw [if_neg hv] at h3
    subst h3
    refine ⟨HV, ⟨?_⟩, HB, HK⟩
    have hv' : ¬ v = ((4 : Nat) : Int) + 1 := by omega
    simpa [tick, hv, hv'] using hI

set_option maxHeartbeats 8000000 in
set_option maxRecDepth 100000 in
theorem guard_Guard_Take.calls (g : Nat) (s0 s1 s2 : Int) (s3 : Bool) (s4 s5 s6 s7 s8 : Int) (t : ByteArray) (r1 r2 r3 r4 : Int) (r5 : Bool) (r6 r7 r8 r9 r10 : Int) (w0 w : World) (hI : IsS87 w0 w g s0 s1 s2 s3 s4 s5 s6 s7 s8) (hB : Below w0.heap.size w0 w)
    (h : guard_Guard_Take.f s0 s1 s2 s3 s4 s5 s6 s7 s8 t = some (r1, r2, r3, r4, r5, r6, r7, r8, r9, r10)) :
    Calls Try.prog 19 #[.pointer (some ⟨g, 0, none⟩), .string t] w fun e w' => e = .returned (.int .i64 r1) ∧ IsS87 w0 w' g r2 r3 r4 r5 r6 r7 r8 r9 r10 ∧ Below w0.heap.size w0 w' ∧ KeepBut w w' g none := by
  have HI := Aside0.mk hI
  have HB := Aside0.mk hB
  have hu := Try.underlying87
  have huc := Try.underlying47
  obtain ⟨hg, hge⟩ := hI
  have c0 := cellS87_0 hg
  clear hB hg
  unfold guard_Guard_Take.f at h
  by_cases hz : t.size ≤ 4611686018427387904
  · rw [if_pos hz] at h
    simp only [Option.some.injEq, Prod.mk.injEq] at h
    have H := Aside0.mk h
    obtain ⟨o1, o2, o3, hO⟩ : ∃ o1 o2 o3, openP s0 t = (o1, o2, o3) := ⟨_, _, _, rfl⟩
    have HO := Aside0.mk hO
    have HOf := Aside0.mk (show guard_Open.f 2 s0 t = some (o1, o2, o3) by rw [← hO]; exact open_f 0 s0 t hz)
    clear h hz hO
    go_enter Try.func19, Try.ntmps19
    go_wp2_with fail
    refine (guard_Open.calls 2 s0 t o1 o2 o3 w HOf.out).mono ?_
    rintro e w1 ⟨rfl, hb1⟩
    have HI1 := Aside0.mk (IsS87.below HI.out hb1)
    have HB1 := Aside0.mk (HB.out.trans (hb1.mono HB.out.size))
    have HK1 := Aside0.mk (KeepBut.of_below hb1 g none)
    clear hb1 c0
    by_cases h3 : o3 = 0
    · have u1 : (o3 == 0) = true := by simpa using h3
      have HVD := Aside0.mk (show verdictP s0 s1 s2 s3 t = judgeP s1 s2 s3 o1 by unfold verdictP; rw [HO.out]; simp [h3])
      have HLe := Aside0.mk (show w.heap.size ≤ w1.heap.size from HK1.out.1)
      go_wp2_with fail
      refine (guard_Guard_judge.calls 1 g s0 s1 s2 s3 s4 s5 s6 s7 s8 o1 (judgeP s1 s2 s3 o1) s0 s1 s2 s3 s4 s5 s6 s7 s8 w0 _ (IsS87.alloc HI1.out _) (below_alloc HB1.out _) (judge_f 0 s0 s1 s2 s3 s4 s5 s6 s7 s8 o1)).mono ?_
      rintro e w2 ⟨rfl, hI2, hB2, hK2⟩
      have hlt : g < w1.heap.size := IsS87.lt HI1.out
      have hV2 : w2.heap[w1.heap.size]? = some (.cells #[.int .i64 5] 3 (0, 0)) := by
        rw [hK2.2 w1.heap.size (by simp) (by omega) (by simp)]; exact blk_new _ _
      have cv := blk_cell hV2 0
      have fv := blk_frozen hV2 0
      have d2 := cellS87_2 hI2.1
      have d3 := cellS87_3 hI2.1
      have ne1 : w1.heap.size ≠ g := by omega
      have ne2 : g ≠ w1.heap.size := by omega
      have f2 := blk_frozen hI2.1 2
      have f3 := blk_frozen hI2.1 3
      have HI2 := Aside0.mk hI2
      have HB2 := Aside0.mk hB2
      have HV2 := Aside0.mk hV2
      have HK2 := Aside0.mk (HK1.out.trans ((KeepBut.of_below (below_alloc (Below.refl _ _) _) g none).trans hK2 (.inl rfl)) (.inl rfl))
      clear hI2 hB2 hV2 hK2
      have hVp : (w2.setCell ⟨w1.heap.size, 0, none⟩ (.int .i64 (judgeP s1 s2 s3 o1))).heap[w1.heap.size]? = some (.cells #[.int .i64 (judgeP s1 s2 s3 o1)] 3 (0, 0)) := blk_put HV2.out 0 _ rfl
      have HV := Aside0.mk (show (((w2.setCell ⟨w1.heap.size, 0, none⟩ (.int .i64 (judgeP s1 s2 s3 o1))).setCell ⟨g, 2, none⟩ (.int .i64 o1)).setCell ⟨g, 3, none⟩ (.bool true)).heap[w1.heap.size]? = some (.cells #[.int .i64 (judgeP s1 s2 s3 o1)] 3 (0, 0)) by
        rw [Below.heap_setCell _ ⟨g, 3, none⟩ _ _ ne1, Below.heap_setCell _ ⟨g, 2, none⟩ _ _ ne1]; exact hVp)
      have HI9 := Aside0.mk (IsS87.set_3 (IsS87.set_2 (IsS87.far (p := ⟨w1.heap.size, 0, none⟩) HI2.out ne2 (.int .i64 (judgeP s1 s2 s3 o1))) o1) true)
      have HB9 := Aside0.mk (((HB2.out.setCell (p := ⟨w1.heap.size, 0, none⟩) (HB1.out.size) (.int .i64 (judgeP s1 s2 s3 o1))).setCell (p := ⟨g, 2, none⟩) (IsS87.ge HI2.out) (.int .i64 o1)).setCell (p := ⟨g, 3, none⟩) (IsS87.ge HI2.out) (.bool true))
      have HK9 := Aside0.mk (((keep_set HK2.out HLe.out 0 (.int .i64 (judgeP s1 s2 s3 o1))).set_ 2 (.int .i64 o1)).set_ 3 (.bool true))
      clear hVp
      go_wp2_with fail
      refine region_tree (.pure 0 <| .pure 1 <| .pure 2 <| .pure 3 <| .pure 4 <| .pure 5 <| .pure 6 <| .pure 7 <| .pure 8 <| .pure 9 <| .pure 10 <| .pure 11 <| .pure 12 <| .pure 13 <| .pure 14 <| .pure 15 <| .pure 16 <| .pure 17 <| .pure 18 <| .pure 19 <| .pure 21 <| .one 20 <| .done) (by kernel_rfl) (by kernel_rfl) (fun d _ _ _ _ h => by cases d <;> exact h) ?_
      iterate 21
        apply tree_pure rfl rfl rfl
        · intro w'; go_simp; with_reducible rfl
        · simp only [Act.put, List.setIfInBounds_toArray, List.set_cons_zero, List.set_cons_succ]; rfl
      refine tree_one rfl ?_
      go_wp2
      refine tree_on (tree_done ?_)
      go_wp2_with fail
      go_loopw [58] (fun x wr => ∃ i : Nat, i ≤ 5 ∧ x = .int .i64 i ∧ Aside0 (wr.heap[w1.heap.size]? = some (.cells #[.int .i64 (judgeP s1 s2 s3 o1)] 3 (0, 0))) ∧
          Aside0 (IsS87 w0 wr g s0 s1 o1 true (tick (judgeP s1 s2 s3 o1) 0 i s4) (tick (judgeP s1 s2 s3 o1) 1 i s5) (tick (judgeP s1 s2 s3 o1) 2 i s6) (tick (judgeP s1 s2 s3 o1) 3 i s7) (tick (judgeP s1 s2 s3 o1) 4 i s8)) ∧ Aside0 (Below w0.heap.size w0 wr) ∧ Aside0 (KeepBut w wr g none)) (fun i _ => 6 - (intOf i).toNat)
      case atStart =>
        refine ⟨0, by omega, rfl, ⟨HV.out⟩, ⟨?_⟩, ⟨HB9.out.drew⟩, ⟨HK9.out⟩⟩
        have hI9 := IsS87.drew HI9.out
        simpa [tick] using hI9
      case round =>
        clear HV HB9 HI9 HK9
        obtain ⟨i, hi, rfl, HV, HI9, HB9, HK9⟩ := hrel
        by_cases hil : i < 5
        · have u5 : decide ((i : Int) < 5) = true := decide_eq_true (by omega)
          have hv := blk_cell HV.out 0
          obtain ⟨hg9, hge9⟩ := HI9.out
          have d4 := cellS87_4 hg9
          have d5 := cellS87_5 hg9
          have d6 := cellS87_6 hg9
          have d7 := cellS87_7 hg9
          have d8 := cellS87_8 hg9
          have f0 := fun j => blk_frozen hg9 j
          clear hg9
          have hx : ∀ (j : Nat), j < 5 → ∀ w, (Instr.index 91 (.agg #[.pointer (some ⟨g, 4, none⟩), .pointer (some ⟨g, 5, none⟩), .pointer (some ⟨g, 6, none⟩), .pointer (some ⟨g, 7, none⟩), .pointer (some ⟨g, 8, none⟩)]) (.int .i64 (j : Int))).run Try.prog w = .ok (#[.pointer (some ⟨g, 4, none⟩), .pointer (some ⟨g, 5, none⟩), .pointer (some ⟨g, 6, none⟩), .pointer (some ⟨g, 7, none⟩), .pointer (some ⟨g, 8, none⟩)].getD j undef) w :=
            fun j hj w => run_index5 Try.prog 91 89 _ _ _ _ _ w Try.underlying91 Try.sizeOf89 Try.isAgg89 j hj
          obtain rfl | rfl | rfl | rfl | rfl : i = 0 ∨ i = 1 ∨ i = 2 ∨ i = 3 ∨ i = 4 := by omega
          · have hx0 : ∀ w, (Instr.index 91 (.agg #[.pointer (some ⟨g, 4, none⟩), .pointer (some ⟨g, 5, none⟩), .pointer (some ⟨g, 6, none⟩), .pointer (some ⟨g, 7, none⟩), .pointer (some ⟨g, 8, none⟩)]) (.int .i64 0)).run Try.prog w = .ok (.pointer (some ⟨g, 4, none⟩)) w := hx 0 (by omega)
            clear hx
            go_wp2_with fail
            refine (tell.calls 1 (judgeP s1 s2 s3 o1) _ w1.heap.size g 4 wr hv d4 (f0 4)).mono ?_
            rintro e w3 ⟨rfl, hw3⟩
            have HW3 := Aside0.mk hw3
            clear hw3
            go_wp2_with fail
            go_roundw
            case rel => exact ⟨1, by omega, rfl, take_step0 HV HI9 HB9 HK9 HW3.out⟩
            case measure => simp [intOf]
          · have hx1 : ∀ w, (Instr.index 91 (.agg #[.pointer (some ⟨g, 4, none⟩), .pointer (some ⟨g, 5, none⟩), .pointer (some ⟨g, 6, none⟩), .pointer (some ⟨g, 7, none⟩), .pointer (some ⟨g, 8, none⟩)]) (.int .i64 1)).run Try.prog w = .ok (.pointer (some ⟨g, 5, none⟩)) w := hx 1 (by omega)
            clear hx
            go_wp2_with fail
            refine (tell.calls 2 (judgeP s1 s2 s3 o1) _ w1.heap.size g 5 wr hv d5 (f0 5)).mono ?_
            rintro e w3 ⟨rfl, hw3⟩
            have HW3 := Aside0.mk hw3
            clear hw3
            go_wp2_with fail
            go_roundw
            case rel => exact ⟨2, by omega, rfl, take_step1 HV HI9 HB9 HK9 HW3.out⟩
            case measure => simp [intOf]
          · have hx2 : ∀ w, (Instr.index 91 (.agg #[.pointer (some ⟨g, 4, none⟩), .pointer (some ⟨g, 5, none⟩), .pointer (some ⟨g, 6, none⟩), .pointer (some ⟨g, 7, none⟩), .pointer (some ⟨g, 8, none⟩)]) (.int .i64 2)).run Try.prog w = .ok (.pointer (some ⟨g, 6, none⟩)) w := hx 2 (by omega)
            clear hx
            go_wp2_with fail
            refine (tell.calls 3 (judgeP s1 s2 s3 o1) _ w1.heap.size g 6 wr hv d6 (f0 6)).mono ?_
            rintro e w3 ⟨rfl, hw3⟩
            have HW3 := Aside0.mk hw3
            clear hw3
            go_wp2_with fail
            go_roundw
            case rel => exact ⟨3, by omega, rfl, take_step2 HV HI9 HB9 HK9 HW3.out⟩
            case measure => simp [intOf]
          · have hx3 : ∀ w, (Instr.index 91 (.agg #[.pointer (some ⟨g, 4, none⟩), .pointer (some ⟨g, 5, none⟩), .pointer (some ⟨g, 6, none⟩), .pointer (some ⟨g, 7, none⟩), .pointer (some ⟨g, 8, none⟩)]) (.int .i64 3)).run Try.prog w = .ok (.pointer (some ⟨g, 7, none⟩)) w := hx 3 (by omega)
            clear hx
            go_wp2_with fail
            refine (tell.calls 4 (judgeP s1 s2 s3 o1) _ w1.heap.size g 7 wr hv d7 (f0 7)).mono ?_
            rintro e w3 ⟨rfl, hw3⟩
            have HW3 := Aside0.mk hw3
            clear hw3
            go_wp2_with fail
            go_roundw
            case rel => exact ⟨4, by omega, rfl, take_step3 HV HI9 HB9 HK9 HW3.out⟩
            case measure => simp [intOf]
          · have hx4 : ∀ w, (Instr.index 91 (.agg #[.pointer (some ⟨g, 4, none⟩), .pointer (some ⟨g, 5, none⟩), .pointer (some ⟨g, 6, none⟩), .pointer (some ⟨g, 7, none⟩), .pointer (some ⟨g, 8, none⟩)]) (.int .i64 4)).run Try.prog w = .ok (.pointer (some ⟨g, 8, none⟩)) w := hx 4 (by omega)
            clear hx
            go_wp2_with fail
            refine (tell.calls 5 (judgeP s1 s2 s3 o1) _ w1.heap.size g 8 wr hv d8 (f0 8)).mono ?_
            rintro e w3 ⟨rfl, hw3⟩
            have HW3 := Aside0.mk hw3
            clear hw3
            go_wp2_with fail
            go_roundw
            case rel => exact ⟨5, by omega, rfl, take_step4 HV HI9 HB9 HK9 HW3.out⟩
            case measure => simp [intOf]
        · obtain rfl : i = 5 := by omega
          have hv := blk_cell HV.out 0
          go_wp2_with fail
          go_ret
          obtain ⟨e1, e2, e3, e4, e5, e6, e7, e8, e9, e10⟩ := H.out
          subst e1 e2 e3 e4 e5 e6 e7 e8 e9 e10
          have hI9 := HI9.out
          refine ⟨?_, ?_, HB9.out, HK9.out⟩
          · rw [HVD.out]; rfl
          · simpa [HVD.out, HO.out, h3] using hI9
    · have u1 : (o3 == 0) = false := by simpa using h3
      have HVD := Aside0.mk (show verdictP s0 s1 s2 s3 t = 5 by unfold verdictP; rw [HO.out]; simp [h3])
      have HLe := Aside0.mk (show w.heap.size ≤ w1.heap.size from HK1.out.1)
      have HV := Aside0.mk (blk_new w1 (.cells #[.int .i64 5] 3))
      have HI9 := Aside0.mk (IsS87.alloc HI1.out (.cells #[.int .i64 5] 3))
      have HB9 := Aside0.mk (below_alloc HB1.out (.cells #[.int .i64 5] 3))
      have HK9 := Aside0.mk (HK1.out.trans (KeepBut.of_below (below_alloc (Below.refl _ _) (.cells #[.int .i64 5] 3)) g none) (.inl rfl))
      go_wp2_with fail
      refine region_tree (.pure 0 <| .pure 1 <| .pure 2 <| .pure 3 <| .pure 4 <| .pure 5 <| .pure 6 <| .pure 7 <| .pure 8 <| .pure 9 <| .pure 10 <| .pure 11 <| .pure 12 <| .pure 13 <| .pure 14 <| .pure 15 <| .pure 16 <| .pure 17 <| .pure 18 <| .pure 19 <| .pure 21 <| .one 20 <| .done) (by kernel_rfl) (by kernel_rfl) (fun d _ _ _ _ h => by cases d <;> exact h) ?_
      iterate 21
        apply tree_pure rfl rfl rfl
        · intro w'; go_simp; with_reducible rfl
        · simp only [Act.put, List.setIfInBounds_toArray, List.set_cons_zero, List.set_cons_succ]; rfl
      refine tree_one rfl ?_
      go_wp2
      refine tree_on (tree_done ?_)
      go_wp2_with fail
      go_loopw [58] (fun x wr => ∃ i : Nat, i ≤ 5 ∧ x = .int .i64 i ∧ Aside0 (wr.heap[w1.heap.size]? = some (.cells #[.int .i64 5] 3 (0, 0))) ∧
          Aside0 (IsS87 w0 wr g s0 s1 s2 s3 (tick 5 0 i s4) (tick 5 1 i s5) (tick 5 2 i s6) (tick 5 3 i s7) (tick 5 4 i s8)) ∧ Aside0 (Below w0.heap.size w0 wr) ∧ Aside0 (KeepBut w wr g none)) (fun i _ => 6 - (intOf i).toNat)
      case atStart =>
        refine ⟨0, by omega, rfl, ⟨HV.out⟩, ⟨?_⟩, ⟨HB9.out.drew⟩, ⟨HK9.out⟩⟩
        have hI9 := IsS87.drew HI9.out
        simpa [tick] using hI9
      case round =>
        clear HV HB9 HI9 HK9
        obtain ⟨i, hi, rfl, HV, HI9, HB9, HK9⟩ := hrel
        by_cases hil : i < 5
        · have u5 : decide ((i : Int) < 5) = true := decide_eq_true (by omega)
          have hv := blk_cell HV.out 0
          obtain ⟨hg9, hge9⟩ := HI9.out
          have d4 := cellS87_4 hg9
          have d5 := cellS87_5 hg9
          have d6 := cellS87_6 hg9
          have d7 := cellS87_7 hg9
          have d8 := cellS87_8 hg9
          have f0 := fun j => blk_frozen hg9 j
          clear hg9
          have hx : ∀ (j : Nat), j < 5 → ∀ w, (Instr.index 91 (.agg #[.pointer (some ⟨g, 4, none⟩), .pointer (some ⟨g, 5, none⟩), .pointer (some ⟨g, 6, none⟩), .pointer (some ⟨g, 7, none⟩), .pointer (some ⟨g, 8, none⟩)]) (.int .i64 (j : Int))).run Try.prog w = .ok (#[.pointer (some ⟨g, 4, none⟩), .pointer (some ⟨g, 5, none⟩), .pointer (some ⟨g, 6, none⟩), .pointer (some ⟨g, 7, none⟩), .pointer (some ⟨g, 8, none⟩)].getD j undef) w :=
            fun j hj w => run_index5 Try.prog 91 89 _ _ _ _ _ w Try.underlying91 Try.sizeOf89 Try.isAgg89 j hj
          obtain rfl | rfl | rfl | rfl | rfl : i = 0 ∨ i = 1 ∨ i = 2 ∨ i = 3 ∨ i = 4 := by omega
          · have hx0 : ∀ w, (Instr.index 91 (.agg #[.pointer (some ⟨g, 4, none⟩), .pointer (some ⟨g, 5, none⟩), .pointer (some ⟨g, 6, none⟩), .pointer (some ⟨g, 7, none⟩), .pointer (some ⟨g, 8, none⟩)]) (.int .i64 0)).run Try.prog w = .ok (.pointer (some ⟨g, 4, none⟩)) w := hx 0 (by omega)
            clear hx
            go_wp2_with fail
            refine (tell.calls 1 5 _ w1.heap.size g 4 wr hv d4 (f0 4)).mono ?_
            rintro e w3 ⟨rfl, hw3⟩
            have HW3 := Aside0.mk hw3
            clear hw3
            go_wp2_with fail
            go_roundw
            case rel => exact ⟨1, by omega, rfl, take_step0 HV HI9 HB9 HK9 HW3.out⟩
            case measure => simp [intOf]
          · have hx1 : ∀ w, (Instr.index 91 (.agg #[.pointer (some ⟨g, 4, none⟩), .pointer (some ⟨g, 5, none⟩), .pointer (some ⟨g, 6, none⟩), .pointer (some ⟨g, 7, none⟩), .pointer (some ⟨g, 8, none⟩)]) (.int .i64 1)).run Try.prog w = .ok (.pointer (some ⟨g, 5, none⟩)) w := hx 1 (by omega)
            clear hx
            go_wp2_with fail
            refine (tell.calls 2 5 _ w1.heap.size g 5 wr hv d5 (f0 5)).mono ?_
            rintro e w3 ⟨rfl, hw3⟩
            have HW3 := Aside0.mk hw3
            clear hw3
            go_wp2_with fail
            go_roundw
            case rel => exact ⟨2, by omega, rfl, take_step1 HV HI9 HB9 HK9 HW3.out⟩
            case measure => simp [intOf]
          · have hx2 : ∀ w, (Instr.index 91 (.agg #[.pointer (some ⟨g, 4, none⟩), .pointer (some ⟨g, 5, none⟩), .pointer (some ⟨g, 6, none⟩), .pointer (some ⟨g, 7, none⟩), .pointer (some ⟨g, 8, none⟩)]) (.int .i64 2)).run Try.prog w = .ok (.pointer (some ⟨g, 6, none⟩)) w := hx 2 (by omega)
            clear hx
            go_wp2_with fail
            refine (tell.calls 3 5 _ w1.heap.size g 6 wr hv d6 (f0 6)).mono ?_
            rintro e w3 ⟨rfl, hw3⟩
            have HW3 := Aside0.mk hw3
            clear hw3
            go_wp2_with fail
            go_roundw
            case rel => exact ⟨3, by omega, rfl, take_step2 HV HI9 HB9 HK9 HW3.out⟩
            case measure => simp [intOf]
          · have hx3 : ∀ w, (Instr.index 91 (.agg #[.pointer (some ⟨g, 4, none⟩), .pointer (some ⟨g, 5, none⟩), .pointer (some ⟨g, 6, none⟩), .pointer (some ⟨g, 7, none⟩), .pointer (some ⟨g, 8, none⟩)]) (.int .i64 3)).run Try.prog w = .ok (.pointer (some ⟨g, 7, none⟩)) w := hx 3 (by omega)
            clear hx
            go_wp2_with fail
            refine (tell.calls 4 5 _ w1.heap.size g 7 wr hv d7 (f0 7)).mono ?_
            rintro e w3 ⟨rfl, hw3⟩
            have HW3 := Aside0.mk hw3
            clear hw3
            go_wp2_with fail
            go_roundw
            case rel => exact ⟨4, by omega, rfl, take_step3 HV HI9 HB9 HK9 HW3.out⟩
            case measure => simp [intOf]
          · have hx4 : ∀ w, (Instr.index 91 (.agg #[.pointer (some ⟨g, 4, none⟩), .pointer (some ⟨g, 5, none⟩), .pointer (some ⟨g, 6, none⟩), .pointer (some ⟨g, 7, none⟩), .pointer (some ⟨g, 8, none⟩)]) (.int .i64 4)).run Try.prog w = .ok (.pointer (some ⟨g, 8, none⟩)) w := hx 4 (by omega)
            clear hx
            go_wp2_with fail
            refine (tell.calls 5 5 _ w1.heap.size g 8 wr hv d8 (f0 8)).mono ?_
            rintro e w3 ⟨rfl, hw3⟩
            have HW3 := Aside0.mk hw3
            clear hw3
            go_wp2_with fail
            go_roundw
            case rel => exact ⟨5, by omega, rfl, take_step4 HV HI9 HB9 HK9 HW3.out⟩
            case measure => simp [intOf]
        · obtain rfl : i = 5 := by omega
          have hv := blk_cell HV.out 0
          go_wp2_with fail
          go_ret
          obtain ⟨e1, e2, e3, e4, e5, e6, e7, e8, e9, e10⟩ := H.out
          subst e1 e2 e3 e4 e5 e6 e7 e8 e9 e10
          have hI9 := HI9.out
          refine ⟨?_, ?_, HB9.out, HK9.out⟩
          · rw [HVD.out]; rfl
          · simpa [HVD.out, HO.out, h3] using hI9
  · rw [if_neg hz] at h; cases h
end Go.Proofs.Ythgnhhdblbiihaa.P
