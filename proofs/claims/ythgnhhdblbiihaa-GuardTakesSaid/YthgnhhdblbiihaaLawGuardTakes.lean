/- The row of GuardTakes: two numbers and a list of texts; after the pattern of the kit's printed rows. -/
import Derived.Test.YthgnhhdblbiihaaRows
import Derived.Test.YthgnhhdblbiihaaPsignalboxlaw40GuardTakes
import Derived.Test.YthgnhhdblbiihaaPureGuardTakes
import Derived.WalkKit
import Derived.ProofKit
import Derived.OpenShut
import Derived.ShutString
import Derived.ChangeOld
import Derived.Below
import Derived.SizedLaws
import Derived.Carry
import Derived.SliceStrings
namespace Go.Proofs.Ythgnhhdblbiihaa.guardTakes
open Go.ChangeShapes Go.WideShapes Go.ChangeAt Go.RowKit
open Go.ChangeMaps (open_string shut_string)
set_option linter.unusedVariables false
theorem own : ownKnob Try.prog.godebug = none := by kernel_rfl
theorem laidOut : laidOutB Try.prog = true := by kernel_rfl
set_option maxRecDepth 100000 in
theorem lifted (os : Os) (started : os.Started) (H : Type) (enc : TypeId × Value → H) :
    ReturnsInHanded {} Try.checked os 7 .any (Rows.guardTakesSpec.pre6 enc Try.prog Try.f7 Rows.guardTakesRow.domain false) (Rows.guardTakesSpec.post enc Try.prog Try.f7 false true false false) := by
  refine returnsInHanded_of_change_sized (C := Try.checked) own started (by kernel_rfl) Try.func7
    (ChangeSpec.witness6 (enc := enc) (C := Try.checked) false ⟨#[], #[.int .i64 0, .int .i64 0, .slice none 0 0], []⟩ 8 (by kernel_rfl) (by kernel_rfl) (by kernel_rfl) (by kernel_rfl)) ?_
  intro W base args ds gs before hval0 hW hcnd hsz0 _
  have hsz : (DataW.weightsEach Try.prog (Try.f7.params.toList ++ Rows.guardTakesSpec.plain.varTypes Try.prog) (ds ++ gs)).all (· ≤ reachBytes) = true := hsz0
  have hval : ∀ (j : Nat) t v, Try.f7.params[j]? = some t → args[j]? = some v → Value.okWide Try.prog W .any base t v := hval0
  have hW' := hW
  obtain ⟨p, q, hA0, hV, rfl, hfz, hnd⟩ := hW
  have hA : DataW.TrodAll enc Try.prog W 0 (fun _ => true) true Try.f7.params.toList args.toList ds p := hA0
  rw [Try.params7] at hA hval hsz
  obtain ⟨v0, vs0, d0, ds0, p0, q0, hargs, rfl, rfl, h0, r0⟩ := trodAll_cons hA
  obtain ⟨v1, vs1, d1, ds1, p1, q1, rfl, rfl, rfl, h1, r1⟩ := trodAll_cons r0
  obtain ⟨v2, vs2, d2, ds2, p2, q2, rfl, rfl, rfl, h2, r2⟩ := trodAll_cons r1
  obtain ⟨rfl, rfl, rfl⟩ := trodAll_nil r2
  obtain rfl : args = #[v0, v1, v2] := by cases args; simp_all
  obtain ⟨rfl, rfl⟩ := trodVars_none hV
  obtain ⟨b0, rfl, rfl, rfl, w0⟩ := open_int Try.underlying3 (hval 0 3 v0 rfl rfl) h0
  obtain ⟨b1, rfl, rfl, rfl, w1⟩ := open_int Try.underlying3 (hval 1 3 v1 rfl rfl) h1
  obtain ⟨a0, len0, cap0, rfl⟩ := okWide_slice Try.underlying42 (hval 2 42 v2 rfl rfl)
  have k0 := h2
  have lt0 : ∀ x ∈ p2, x.block < W.heap.size := by obtain ⟨m, hm⟩ := k0; exact DataW.trod_lt m _ _ _ hm
  obtain ⟨l, rfl, hr0, hc0, hm0⟩ : ∃ l : List ByteArray, len0 = l.length ∧ YthgnhhdblbiihaaW.PrintWords.Kd.C YthgnhhdblbiihaaW.PrintWords.Kd.string W a0 l.length l ∧ l.length ≤ cap0 ∧ l.length ≤ 4611686018427387904 := by
    obtain ⟨fuel, hf⟩ := h2
    rcases open_strings Try.underlying42 Try.underlying9 (by kernel_rfl) hf with ⟨hcs, _⟩ | ⟨x, l, c, ss, hcs, _, hl, hm, hz, hx, hcell, _⟩
    · simp [Value.cells] at hcs
      obtain ⟨rfl, rfl, rfl⟩ := hcs
      exact ⟨[], rfl, YthgnhhdblbiihaaW.PrintWords.Kd.C_nil _ _, Nat.le_refl _, by decide⟩
    · simp [Value.cells] at hcs
      obtain ⟨rfl, rfl, rfl⟩ := hcs
      have hz' : ss.length = cap0 := by simpa using hz
      have hd0 : d2 = .slice (strs (ss.take len0)) (strs (ss.drop len0)) := congrArg Prod.fst hx
      have zz := sized_slice hsz (j := 2) (t := 42) (e := 9) rfl (by rw [hd0]; rfl) Try.underlying42
      have e1 : (strs (H := H) (ss.take len0)).length + (strs (H := H) (ss.drop len0)).length = ss.length := by simp [strs]; omega
      rw [e1, show Try.prog.bytesOf 9 = 16 from by kernel_rfl] at zz
      unfold reachBytes at zz
      have e2 : (ss.take len0).length = len0 := by rw [List.length_take]; omega
      refine ⟨ss.take len0, e2.symm, ⟨rfl, by omega, fun _ => ⟨x, rfl, fun j s hj => ⟨[.string s], rfl, rfl, fun i u hu => ?_⟩⟩⟩, by omega, by omega⟩
      match i, hu with
      | 0, hu =>
        simp only [List.getElem?_cons_zero, Option.some.injEq] at hu
        subst hu
        have hj' : j < len0 := by have := (List.getElem?_eq_some_iff.1 hj).1; omega
        rw [List.getElem?_take_of_lt hj'] at hj
        have hlt : j < ss.length := (List.getElem?_eq_some_iff.1 hj).1
        have hc := hcell j hlt
        rw [List.getD_eq_getElem?_getD, hj] at hc
        rw [show j * YthgnhhdblbiihaaW.PrintWords.Kd.string.sz + 0 = j from by show j * 1 + 0 = j; omega]
        exact hc
  clear hA0 hval0 hsz0 hsz
  refine (Pure.GuardTakesWalk b0 b1 a0 cap0 l hm0 W hr0 hc0).mono fun e W' ⟨he, bel⟩ => ?_
  subst he
  exact ⟨_, rfl, _, _, _, [], _, [], hW', trodAll_mk1 (shut_bool Try.underlying4 _), (trodAll_cons_mk (shut_int Try.underlying3 w0) (trodAll_cons_mk (shut_int Try.underlying3 w1) (trodAll_cons_mk (Below.trod laidOut (by kernel_rfl) (of_decide_eq_true (by kernel_rfl)) k0 bel lt0) trodAll_mk0))), rfl, bel.frame _, fun h => by cases h⟩
theorem over : Rows.guardTakesRow.holds Try.pinned (OpenSpec.ofChange Rows.guardTakesSpec) :=
  OpenClaim.holds_of_wide 7 Try.f7 rfl rfl rfl rfl rfl rfl rfl ⟨rfl, rfl, rfl, rfl, rfl⟩ rfl rfl rfl rfl rfl (by kernel_rfl) Try.func7 (by kernel_rfl)
    (of_decide_eq_true (by kernel_rfl)) (by unfold Func.isWrapper; first | (rw [if_pos (by decide +kernel)]; kernel_rfl) | (rw [if_neg (by decide +kernel)]; exact ⟨rfl, rfl⟩))
    (fun os started H enc _ => lifted os started H enc)
theorem proved : Rows.GuardTakesSaid := over
#print axioms proved
end Go.Proofs.Ythgnhhdblbiihaa.guardTakes
namespace Go.Proofs.Ythgnhhdblbiihaa
/-- The row, under a short name, for the claim. -/
theorem guardTakes_holds : Rows.GuardTakesSaid := guardTakes.proved
end Go.Proofs.Ythgnhhdblbiihaa
