/- What comes in: structs of numbers, texts and truths, and rows of them; no conditions. -/
import Derived.Test.YtkmhdibabdifbaaP0
import Derived.Test.YtkmhdibabdifbaaWTab
import Derived.Deep.Slices
import Derived.ChangeArms
import Derived.KernelRfl
namespace Go.Proofs.Ytkmhdibabdifbaa.P
open Go.RowKit Go.WideShapes Go.ChangeShapes Go.Proofs.YtkmhdibabdifbaaW.PrintWords Go.Proofs.YtkmhdibabdifbaaW.PrintLast
set_option linter.unusedVariables false
theorem listK {α : Type} {Pr : Nat → α → Prop} : ∀ n, (∀ i, i < n → ∃ v, Pr i v) → ∃ L : List α, L.length = n ∧ ∀ i v, L[i]? = some v → Pr i v
  | 0, _ => ⟨[], rfl, fun i v hv => by simp at hv⟩
  | q + 1, each => by
    obtain ⟨L, hL, hall⟩ := listK q (fun i hi => each i (by omega))
    obtain ⟨v, hv⟩ := each q (by omega)
    refine ⟨L ++ [v], by simp [hL], fun i u hu => ?_⟩
    by_cases hi : i < q
    · rw [List.getElem?_append_left (by omega)] at hu
      exact hall i u hu
    · have : i = q := by
        have := (List.getElem?_eq_some_iff.1 hu).1
        simp [hL] at this
        omega
      subst this
      rw [List.getElem?_append_right (by omega), hL] at hu
      simp at hu
      subst hu
      exact hv
section
variable {H : Type} {enc : TypeId × Value → H} {w : World} {base : Nat} {spare : Nat → Bool} {held : Bool}
/-- A row whose elements can be read one by one. -/
theorem open_rowK {P : Program} {α : Type} (k : Kd α) {t e : TypeId} (ht : P.underlying t = some (.slice e)) (hsz : P.cellsOf e = k.sz)
    (ho : ∀ (n : Nat) (cs : List Value) (x : DataW H × List MemPlace), DataW.trod enc P w base (fun _ => true) held n e cs = some x → ∃ v, k.K w v cs)
    {fuel : Nat} {a : Option Addr} {len cap : Nat} {x : DataW H × List MemPlace} (h : DataW.trod enc P w base (fun _ => true) held fuel t [.slice a len cap] = some x) :
    ∃ l : List α, len = l.length ∧ k.C w a l.length l ∧ l.length ≤ cap ∧ l.length ≤ maxLen := by
  rcases Go.Deep.open_slice ht h with ⟨hcs, _⟩ | ⟨ad, len', cap', m, n, D, Pl, hcs, _, hl, hm, hmm, _, hx⟩
  · simp at hcs
    obtain ⟨rfl, rfl, rfl⟩ := hcs
    exact ⟨[], rfl, Kd.C_nil _ _, Nat.le_refl _, Nat.zero_le _⟩
  · simp at hcs
    obtain ⟨rfl, rfl, rfl⟩ := hcs
    have hmc : m = cap := by simpa using hmm
    subst hmc
    have each : ∀ i, i < len → ∃ v : α, ∃ cs, k.K w v cs ∧ ∀ j u, cs[j]? = some u → w.cell? (ad.add (i * k.sz + j)) = some u := by
      intro i hi
      obtain ⟨cs, h1, h2⟩ := hx i (by omega)
      obtain ⟨v, hv⟩ := ho n cs _ h2
      refine ⟨v, cs, hv, fun j u hu => ?_⟩
      obtain ⟨_, hlen, hcell⟩ := World.cells?_some h1
      have hj : j < cs.length := (List.getElem?_eq_some_iff.1 hu).1
      rw [hlen, hsz] at hj
      have := hcell j (by rw [hsz]; exact hj)
      rw [add_add, hsz] at this
      rw [this]
      exact hu
    obtain ⟨L, hL, hall⟩ := listK len each
    refine ⟨L, hL.symm, ⟨rfl, by unfold maxLen at hm; omega, fun _ => ⟨ad, rfl, fun j p hp => ?_⟩⟩, by omega, by omega⟩
    obtain ⟨cs, h1, h2⟩ := hall j p hp
    exact ⟨cs, k.K_len h1, h1, h2⟩
theorem opens_frame {fuel : Nat} {cs : List Value} {x : DataW H × List MemPlace} (h : DataW.trod enc Try.prog w base spare held fuel 29 cs = some x) : ∃ p : S29, cs = [.int .i64 p.f0, .int .i64 p.f1, .int .i64 p.f2, .string p.f3] := by
  obtain ⟨xs, n, rfl, _, hlen, hxl, hf⟩ := DataW.trod_struct Try.underlying29 h
  rw [show Try.prog.cellsOf 29 = 4 from by kernel_rfl] at hlen
  match cs, hlen, xs, hxl with
  | [c0, c1, c2, c3], _, [y0, y1, y2, y3], _ =>
    have g0 : DataW.trod enc Try.prog w base spare held n 3 [c0] = some y0 := by
      have := hf 0 _ rfl
      simpa [show Try.prog.cellsOf 3 = 1 from by kernel_rfl] using this
    obtain ⟨v0, e0, _⟩ := DataW.trod_int Try.underlying3 g0
    simp only [List.cons.injEq, and_true] at e0
    have g1 : DataW.trod enc Try.prog w base spare held n 3 [c1] = some y1 := by
      have := hf 1 _ rfl
      simpa [show Try.prog.cellsOf 3 = 1 from by kernel_rfl] using this
    obtain ⟨v1, e1, _⟩ := DataW.trod_int Try.underlying3 g1
    simp only [List.cons.injEq, and_true] at e1
    have g2 : DataW.trod enc Try.prog w base spare held n 3 [c2] = some y2 := by
      have := hf 2 _ rfl
      simpa [show Try.prog.cellsOf 3 = 1 from by kernel_rfl] using this
    obtain ⟨v2, e2, _⟩ := DataW.trod_int Try.underlying3 g2
    simp only [List.cons.injEq, and_true] at e2
    have g3 : DataW.trod enc Try.prog w base spare held n 9 [c3] = some y3 := by
      have := hf 3 _ rfl
      simpa [show Try.prog.cellsOf 9 = 1 from by kernel_rfl] using this
    obtain ⟨v3, e3, _⟩ := DataW.trod_string Try.underlying9 g3
    simp only [List.cons.injEq, and_true] at e3
    refine ⟨⟨v0, v1, v2, v3⟩, ?_⟩
    simp only [List.cons.injEq, and_true]
    simp_all
theorem opens_packet {fuel : Nat} {cs : List Value} {x : DataW H × List MemPlace} (h : DataW.trod enc Try.prog w base spare held fuel 31 cs = some x) : ∃ p : S31, cs = [.int .i64 p.f0.f0, .int .i64 p.f0.f1, .int .i64 p.f0.f2, .string p.f0.f3, .int .i64 p.f1, .int .i64 p.f2, .bool p.f3] := by
  obtain ⟨xs, n, rfl, _, hlen, hxl, hf⟩ := DataW.trod_struct Try.underlying31 h
  rw [show Try.prog.cellsOf 31 = 7 from by kernel_rfl] at hlen
  match cs, hlen, xs, hxl with
  | [c0, c1, c2, c3, c4, c5, c6], _, [y0, y1, y2, y3], _ =>
    have g0 : DataW.trod enc Try.prog w base spare held n 29 [c0, c1, c2, c3] = some y0 := by
      have := hf 0 _ rfl
      simpa [show Try.prog.cellsOf 29 = 4 from by kernel_rfl] using this
    obtain ⟨v0, e0⟩ := opens_frame g0
    simp only [List.cons.injEq, and_true] at e0
    have g1 : DataW.trod enc Try.prog w base spare held n 3 [c4] = some y1 := by
      have := hf 1 _ rfl
      simpa [show Try.prog.cellsOf 3 = 1 from by kernel_rfl] using this
    obtain ⟨v1, e1, _⟩ := DataW.trod_int Try.underlying3 g1
    simp only [List.cons.injEq, and_true] at e1
    have g2 : DataW.trod enc Try.prog w base spare held n 3 [c5] = some y2 := by
      have := hf 2 _ rfl
      simpa [show Try.prog.cellsOf 3 = 1 from by kernel_rfl] using this
    obtain ⟨v2, e2, _⟩ := DataW.trod_int Try.underlying3 g2
    simp only [List.cons.injEq, and_true] at e2
    have g3 : DataW.trod enc Try.prog w base spare held n 4 [c6] = some y3 := by
      have := hf 3 _ rfl
      simpa [show Try.prog.cellsOf 4 = 1 from by kernel_rfl] using this
    obtain ⟨v3, e3, _⟩ := DataW.trod_bool Try.underlying4 g3
    simp only [List.cons.injEq, and_true] at e3
    refine ⟨⟨v0, v1, v2, v3⟩, ?_⟩
    simp only [List.cons.injEq, and_true]
    simp_all
theorem opens_op {fuel : Nat} {cs : List Value} {x : DataW H × List MemPlace} (h : DataW.trod enc Try.prog w base spare held fuel 33 cs = some x) : ∃ p : S33, cs = [.int .i64 p.f0, .int .i64 p.f1, .int .i64 p.f2.f0.f0, .int .i64 p.f2.f0.f1, .int .i64 p.f2.f0.f2, .string p.f2.f0.f3, .int .i64 p.f2.f1, .int .i64 p.f2.f2, .bool p.f2.f3] := by
  obtain ⟨xs, n, rfl, _, hlen, hxl, hf⟩ := DataW.trod_struct Try.underlying33 h
  rw [show Try.prog.cellsOf 33 = 9 from by kernel_rfl] at hlen
  match cs, hlen, xs, hxl with
  | [c0, c1, c2, c3, c4, c5, c6, c7, c8], _, [y0, y1, y2], _ =>
    have g0 : DataW.trod enc Try.prog w base spare held n 3 [c0] = some y0 := by
      have := hf 0 _ rfl
      simpa [show Try.prog.cellsOf 3 = 1 from by kernel_rfl] using this
    obtain ⟨v0, e0, _⟩ := DataW.trod_int Try.underlying3 g0
    simp only [List.cons.injEq, and_true] at e0
    have g1 : DataW.trod enc Try.prog w base spare held n 3 [c1] = some y1 := by
      have := hf 1 _ rfl
      simpa [show Try.prog.cellsOf 3 = 1 from by kernel_rfl] using this
    obtain ⟨v1, e1, _⟩ := DataW.trod_int Try.underlying3 g1
    simp only [List.cons.injEq, and_true] at e1
    have g2 : DataW.trod enc Try.prog w base spare held n 31 [c2, c3, c4, c5, c6, c7, c8] = some y2 := by
      have := hf 2 _ rfl
      simpa [show Try.prog.cellsOf 31 = 7 from by kernel_rfl] using this
    obtain ⟨v2, e2⟩ := opens_packet g2
    simp only [List.cons.injEq, and_true] at e2
    refine ⟨⟨v0, v1, v2⟩, ?_⟩
    simp only [List.cons.injEq, and_true]
    simp_all
end
end Go.Proofs.Ytkmhdibabdifbaa.P
