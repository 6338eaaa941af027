/- What comes in: a filter, a frame; no conditions. -/
import Derived.Test.YtaninnkhdhpcgaaP0
import Derived.Test.YtaninnkhdhpcgaaWTab
import Derived.Deep.Slices
import Derived.ChangeArms
import Derived.KernelRfl
namespace Go.Proofs.Ytaninnkhdhpcgaa.P
open Go.RowKit Go.WideShapes Go.ChangeShapes Go.Proofs.YtaninnkhdhpcgaaW.PrintWords Go.Proofs.YtaninnkhdhpcgaaW.PrintLast
set_option linter.unusedVariables false
/-- A frame. -/
structure S36 where
  f0 : Int
  f1 : Int
  f2 : Int
  f3 : ByteArray
section
variable {H : Type} {enc : TypeId × Value → H} {w : World} {base : Nat} {spare : Nat → Bool} {held : Bool}
set_option maxRecDepth 100000 in
theorem opens_frame {fuel : Nat} {cs : List Value} {x : DataW H × List MemPlace} (h : DataW.trod enc Try.prog w base spare held fuel 36 cs = some x) : ∃ p : S36, cs = [.int .i64 p.f0, .int .i64 p.f1, .int .i64 p.f2, .string p.f3] := by
  obtain ⟨xs, n, rfl, _, hlen, hxl, hf⟩ := DataW.trod_struct Try.underlying36 h
  rw [show Try.prog.cellsOf 36 = 4 from by kernel_rfl] at hlen
  match cs, hlen, xs, hxl with
  | [c0, c1, c2, c3], _, [y0, y1, y2, y3], _ =>
    have g0 : DataW.trod enc Try.prog w base spare held n 3 [c0] = some y0 := by
      have := hf 0 _ rfl
      simpa [show Try.prog.cellsOf 3 = 1 from by kernel_rfl] using this
    obtain ⟨v0, e0, _⟩ := DataW.trod_int Try.underlying3 g0
    simp only [List.cons.injEq, and_true] at e0
    have g1 : DataW.trod enc Try.prog w base spare held n 3 [c1] = some y1 := by
      have := hf 1 _ rfl
      simpa [show Try.prog.cellsOf 3 = 1 from by kernel_rfl] using this
    obtain ⟨v1, e1, _⟩ := DataW.trod_int Try.underlying3 g1
    simp only [List.cons.injEq, and_true] at e1
    have g2 : DataW.trod enc Try.prog w base spare held n 3 [c2] = some y2 := by
      have := hf 2 _ rfl
      simpa [show Try.prog.cellsOf 3 = 1 from by kernel_rfl] using this
    obtain ⟨v2, e2, _⟩ := DataW.trod_int Try.underlying3 g2
    simp only [List.cons.injEq, and_true] at e2
    have g3 : DataW.trod enc Try.prog w base spare held n 9 [c3] = some y3 := by
      have := hf 3 _ rfl
      simpa [show Try.prog.cellsOf 9 = 1 from by kernel_rfl] using this
    obtain ⟨v3, e3, _⟩ := DataW.trod_string Try.underlying9 g3
    simp only [List.cons.injEq, and_true] at e3
    refine ⟨⟨v0, v1, v2, v3⟩, ?_⟩
    simp only [List.cons.injEq, and_true]
    simp_all
set_option maxRecDepth 100000 in
theorem opens_filter {fuel : Nat} {cs : List Value} {x : DataW H × List MemPlace} (h : DataW.trod enc Try.prog w base spare held fuel 24 cs = some x) : ∃ p : S24, cs = [.int .u32 p.f0, .int .u32 p.f1, .bool p.f2] ∧ (Lit.int .u32 p.f0).wf = true := by
  obtain ⟨xs, n, rfl, _, hlen, hxl, hf⟩ := DataW.trod_struct Try.underlying24 h
  rw [show Try.prog.cellsOf 24 = 3 from by kernel_rfl] at hlen
  match cs, hlen, xs, hxl with
  | [c0, c1, c2], _, [y0, y1, y2], _ =>
    have g0 : DataW.trod enc Try.prog w base spare held n 22 [c0] = some y0 := by
      have := hf 0 _ rfl
      simpa [show Try.prog.cellsOf 22 = 1 from by kernel_rfl] using this
    obtain ⟨v0, e0, _, z0⟩ := DataW.trod_int Try.underlying22 g0
    simp only [List.cons.injEq, and_true] at e0
    have g1 : DataW.trod enc Try.prog w base spare held n 22 [c1] = some y1 := by
      have := hf 1 _ rfl
      simpa [show Try.prog.cellsOf 22 = 1 from by kernel_rfl] using this
    obtain ⟨v1, e1, _, _⟩ := DataW.trod_int Try.underlying22 g1
    simp only [List.cons.injEq, and_true] at e1
    have g2 : DataW.trod enc Try.prog w base spare held n 4 [c2] = some y2 := by
      have := hf 2 _ rfl
      simpa [show Try.prog.cellsOf 4 = 1 from by kernel_rfl] using this
    obtain ⟨v2, e2, _⟩ := DataW.trod_bool Try.underlying4 g2
    simp only [List.cons.injEq, and_true] at e2
    refine ⟨⟨v0, v1, v2⟩, ?_, z0⟩
    simp only [List.cons.injEq, and_true]
    exact ⟨e0, e1, e2⟩
theorem opens_filter1 {fuel : Nat} {cs : List Value} {x : DataW H × List MemPlace} (h : DataW.trod enc Try.prog w base spare held fuel 24 cs = some x) : ∃ p : S24, cs = [.int .u32 p.f0, .int .u32 p.f1, .bool p.f2] := by
  obtain ⟨p, h, _⟩ := opens_filter h
  exact ⟨p, h⟩
end
end Go.Proofs.Ytaninnkhdhpcgaa.P
