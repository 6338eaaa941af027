/- A length's code: frame.Code; no conditions. -/
import Derived.Test.YtaninnkhdhpcgaaGNum
import Derived.Test.YtaninnkhdhpcgaaGMeas
import Derived.Test.YtaninnkhdhpcgaaGResults
import Derived.Test.YtaninnkhdhpcgaaGObj
import Derived.Test.YtaninnkhdhpcgaaP0
namespace Go.Proofs.Ytaninnkhdhpcgaa.P
open Go.RowKit Go.Proofs.YtaninnkhdhpcgaaW.PrintWords Go.Proofs.YtaninnkhdhpcgaaW.PrintLast Go.Proofs.YtaninnkhdhpcgaaW.PrintMore
set_option linter.unusedVariables false
set_option linter.unusedSimpArgs false

def codeL : List Int := [0, 1, 2, 3, 4, 5, 6, 7, 8, 12, 16, 20, 24, 32, 48, 64]
def codeV : Value := .agg #[.int .i64 0, .int .i64 1, .int .i64 2, .int .i64 3, .int .i64 4, .int .i64 5, .int .i64 6, .int .i64 7, .int .i64 8, .int .i64 12, .int .i64 16, .int .i64 20, .int .i64 24, .int .i64 32, .int .i64 48, .int .i64 64]
set_option maxHeartbeats 4000000 in
set_option maxRecDepth 100000 in
theorem sizes_calls (w : World) : Calls Try.prog 69 #[] w fun e w' => e = .returned codeV ∧ Below w.heap.size w w' := by
  go_enter Try.func69, Try.ntmps69
  go_wp2_with fail
  refine bodyPost_ret (results_c1 (by rfl) _ _ w.heap.size 102 #[.int .i64 0, .int .i64 1, .int .i64 2, .int .i64 3, .int .i64 4, .int .i64 5, .int .i64 6, .int .i64 7, .int .i64 8, .int .i64 12, .int .i64 16, .int .i64 20, .int .i64 24, .int .i64 32, .int .i64 48, .int .i64 64] (0, 0) _ (by rfl) (blk_new _ _) Try.underlying102 (by rfl) (by kernel_rfl)) rfl ?_
  exact ⟨rfl, below_alloc (Below.refl _ _) _⟩
set_option maxHeartbeats 4000000 in
set_option maxRecDepth 100000 in
theorem codefn_calls (x n : Int) (b : Nat) (w : World) (hb : w.cell? ⟨b, 0, none⟩ = some (.int .i64 n)) : Calls Try.prog 63 #[.int .i64 x, .pointer (some ⟨b, 0, none⟩)] w fun e w' => e = .returned (.bool (x == n)) ∧ w' = w := by
  go_enter Try.func63, Try.ntmps63
  go_wp2_with fail
  go_ret
  exact ⟨rfl, rfl⟩
def firstP (n : Int) (L : List Int) : Option Nat := L.findIdx? (fun x => x == n)
theorem ic0 (w : World) : (Instr.index 102 codeV (.int .i64 ((0 : Nat) : Int))).run Try.prog w = .ok (.int .i64 (codeL.getD 0 0)) w := by kernel_rfl
theorem ic1 (w : World) : (Instr.index 102 codeV (.int .i64 ((1 : Nat) : Int))).run Try.prog w = .ok (.int .i64 (codeL.getD 1 0)) w := by kernel_rfl
theorem ic2 (w : World) : (Instr.index 102 codeV (.int .i64 ((2 : Nat) : Int))).run Try.prog w = .ok (.int .i64 (codeL.getD 2 0)) w := by kernel_rfl
theorem ic3 (w : World) : (Instr.index 102 codeV (.int .i64 ((3 : Nat) : Int))).run Try.prog w = .ok (.int .i64 (codeL.getD 3 0)) w := by kernel_rfl
theorem ic4 (w : World) : (Instr.index 102 codeV (.int .i64 ((4 : Nat) : Int))).run Try.prog w = .ok (.int .i64 (codeL.getD 4 0)) w := by kernel_rfl
theorem ic5 (w : World) : (Instr.index 102 codeV (.int .i64 ((5 : Nat) : Int))).run Try.prog w = .ok (.int .i64 (codeL.getD 5 0)) w := by kernel_rfl
theorem ic6 (w : World) : (Instr.index 102 codeV (.int .i64 ((6 : Nat) : Int))).run Try.prog w = .ok (.int .i64 (codeL.getD 6 0)) w := by kernel_rfl
theorem ic7 (w : World) : (Instr.index 102 codeV (.int .i64 ((7 : Nat) : Int))).run Try.prog w = .ok (.int .i64 (codeL.getD 7 0)) w := by kernel_rfl
theorem ic8 (w : World) : (Instr.index 102 codeV (.int .i64 ((8 : Nat) : Int))).run Try.prog w = .ok (.int .i64 (codeL.getD 8 0)) w := by kernel_rfl
theorem ic9 (w : World) : (Instr.index 102 codeV (.int .i64 ((9 : Nat) : Int))).run Try.prog w = .ok (.int .i64 (codeL.getD 9 0)) w := by kernel_rfl
theorem ic10 (w : World) : (Instr.index 102 codeV (.int .i64 ((10 : Nat) : Int))).run Try.prog w = .ok (.int .i64 (codeL.getD 10 0)) w := by kernel_rfl
theorem ic11 (w : World) : (Instr.index 102 codeV (.int .i64 ((11 : Nat) : Int))).run Try.prog w = .ok (.int .i64 (codeL.getD 11 0)) w := by kernel_rfl
theorem ic12 (w : World) : (Instr.index 102 codeV (.int .i64 ((12 : Nat) : Int))).run Try.prog w = .ok (.int .i64 (codeL.getD 12 0)) w := by kernel_rfl
theorem ic13 (w : World) : (Instr.index 102 codeV (.int .i64 ((13 : Nat) : Int))).run Try.prog w = .ok (.int .i64 (codeL.getD 13 0)) w := by kernel_rfl
theorem ic14 (w : World) : (Instr.index 102 codeV (.int .i64 ((14 : Nat) : Int))).run Try.prog w = .ok (.int .i64 (codeL.getD 14 0)) w := by kernel_rfl
theorem ic15 (w : World) : (Instr.index 102 codeV (.int .i64 ((15 : Nat) : Int))).run Try.prog w = .ok (.int .i64 (codeL.getD 15 0)) w := by kernel_rfl
theorem index_code (w : World) (j : Nat) (hj : j < 16) : (Instr.index 102 codeV (.int .i64 (j : Int))).run Try.prog w = .ok (.int .i64 (codeL.getD j 0)) w := by
  have h : j = 0 ∨ j = 1 ∨ j = 2 ∨ j = 3 ∨ j = 4 ∨ j = 5 ∨ j = 6 ∨ j = 7 ∨ j = 8 ∨ j = 9 ∨ j = 10 ∨ j = 11 ∨ j = 12 ∨ j = 13 ∨ j = 14 ∨ j = 15 := by omega
  rcases h with rfl | rfl | rfl | rfl | rfl | rfl | rfl | rfl | rfl | rfl | rfl | rfl | rfl | rfl | rfl | rfl
  · exact ic0 w
  · exact ic1 w
  · exact ic2 w
  · exact ic3 w
  · exact ic4 w
  · exact ic5 w
  · exact ic6 w
  · exact ic7 w
  · exact ic8 w
  · exact ic9 w
  · exact ic10 w
  · exact ic11 w
  · exact ic12 w
  · exact ic13 w
  · exact ic14 w
  · exact ic15 w
set_option maxHeartbeats 8000000 in
set_option maxRecDepth 100000 in
theorem first_calls (n : Int) (b : Nat) (w : World) (hb : w.cell? ⟨b, 0, none⟩ = some (.int .i64 n)) : Calls Try.prog 62 #[.func (.func 63) #[] #[.pointer (some ⟨b, 0, none⟩)]] w fun e w' => ((∃ j : Nat, j < 16 ∧ (∀ i, i < j → codeL.getD i 0 ≠ n) ∧ codeL.getD j 0 = n ∧ e = .returned (.tuple #[.int .i64 j, .int .i64 n, .bool true])) ∨ ((∀ i, i < 16 → codeL.getD i 0 ≠ n) ∧ e = .returned (.tuple #[.int .i64 0, .int .i64 0, .bool false]))) ∧ Below w.heap.size w w' := by
  have HB := Aside0.mk hb
  clear hb
  go_enter Try.func62, Try.ntmps62
  go_wp2_with fail
  refine (sizes_calls _).mono ?_
  rintro e w1 ⟨rfl, hb1⟩
  have H1 := Aside0.mk hb1
  clear hb1
  unfold codeV
  go_wp2_with fail
  go_loopw [8] (fun v wr => ∃ j : Nat, j ≤ 16 ∧ v = .int .i64 j ∧ Aside0 (Below w.heap.size w wr) ∧ Aside0 (∀ i, i < j → codeL.getD i 0 ≠ n)) (fun v _ => 16 + 1 - (intOf v).toNat)
  case atStart => exact ⟨0, by omega, rfl, H1, ⟨fun i hi => by omega⟩⟩
  case round =>
    obtain ⟨j, hj, rfl, HR, HA⟩ := hrel
    by_cases hlt : j < 16
    · have d1 : decide ((j : Int) < 16) = true := decide_eq_true (by omega)
      have hx := fun W => index_code W j hlt
      obtain ⟨x, hxx⟩ : ∃ x, x = codeL.getD j 0 := ⟨_, rfl⟩
      rw [← hxx] at hx
      unfold codeV at hx
      have HX := Aside0.mk hxx
      clear hxx
      go_wp2_with fail
      refine (codefn_calls x n b _ (pw_cell_below HR.out HB.out)).mono ?_
      rintro e w3 ⟨rfl, rfl⟩
      have HW := Aside0.mk (show (j : Int) + 1 = ((j + 1 : Nat) : Int) by omega)
      have HM := Aside0.mk (show 16 + 1 - (intOf (.int .i64 ((j : Int) + 1))).toNat < 16 + 1 - (intOf (.int .i64 (j : Int))).toNat by
        show 16 + 1 - ((j : Int) + 1).toNat < 16 + 1 - ((j : Nat) : Int).toNat
        omega)
      by_cases he : x = n
      · have d2 : (x == n) = true := beq_iff_eq.mpr he
        have HE := Aside0.mk (show codeL.getD j 0 = n by rw [← HX.out, he])
        subst he
        go_wp2_with fail
        refine bodyPost_ret (results_tmp3 (by rfl) _ _ _) rfl ?_
        exact ⟨.inl ⟨j, hlt, HA.out, HE.out, rfl⟩, HR.out⟩
      · have d2 : (x == n) = false := beq_eq_false_iff_ne.mpr he
        have HE := Aside0.mk (show codeL.getD j 0 ≠ n by rw [← HX.out]; exact he)
        clear he
        go_wp2_with fail
        exact ⟨⟨j + 1, by omega, congrArg _ HW.out, HR, ⟨fun i hi => by
          by_cases hij : i = j
          · rw [hij]
            exact HE.out
          · exact HA.out i (by omega)⟩⟩, HM.out⟩
    · obtain rfl : j = 16 := by omega
      have d1 : decide (((16 : Nat) : Int) < 16) = false := rfl
      go_wp2_with fail
      refine bodyPost_ret (results_tmp3 (by rfl) _ _ _) rfl ?_
      exact ⟨.inr ⟨HA.out, rfl⟩, HR.out⟩
def codeP (n : Int) : Int × Bool := match firstP n codeL with
  | some j => ((j : Int), true)
  | none => (0, false)
def frame_Code.f (a0 : Int) : Option (Int × Bool) := some (codeP a0)
theorem code_yes {n : Int} {j : Nat} (hj : j < 16) (ha : ∀ i, i < j → codeL.getD i 0 ≠ n) (he : codeL.getD j 0 = n) : codeP n = ((j : Int), true) := by
  have h : firstP n codeL = some j := by
    unfold firstP
    rw [List.findIdx?_eq_some_iff_getElem]
    have hl : j < codeL.length := hj
    refine ⟨hl, ?_, fun i hi => ?_⟩
    · rw [List.getD_eq_getElem?_getD, List.getElem?_eq_getElem hl] at he
      simpa using he
    · have := ha i hi
      have hl2 : i < codeL.length := Nat.lt_trans hi hl
      rw [List.getD_eq_getElem?_getD, List.getElem?_eq_getElem hl2] at this
      simpa using this
  unfold codeP
  rw [h]
theorem code_no {n : Int} (ha : ∀ i, i < 16 → codeL.getD i 0 ≠ n) : codeP n = (0, false) := by
  have h : firstP n codeL = none := by
    unfold firstP
    rw [List.findIdx?_eq_none_iff]
    intro x hx
    obtain ⟨i, hi, rfl⟩ := List.getElem_of_mem hx
    have := ha i hi
    rw [List.getD_eq_getElem?_getD, List.getElem?_eq_getElem hi] at this
    simpa using this
  unfold codeP
  rw [h]
set_option maxHeartbeats 4000000 in
set_option maxRecDepth 100000 in
theorem frame_Code.calls (a0 : Int) (r1 : Int) (r2 : Bool) (w : World) (h : frame_Code.f a0 = some (r1, r2)) :
    Calls Try.prog 50 #[.int .i64 a0] w fun e w' => e = .returned (.tuple #[.int .i64 r1, .bool r2]) ∧ Below w.heap.size w w' := by
  have hr : codeP a0 = (r1, r2) := Option.some.inj h
  have HR := Aside0.mk hr
  clear hr h
  have hmf : ∀ (fn : Fn) (first cap : Array Value) (w : World), (Instr.makeFunc fn first cap).run Try.prog w = .ok (.func fn first cap) w := fun _ _ _ _ => rfl
  go_enter Try.func50, Try.ntmps50
  go_wp2_with fail
  refine (first_calls a0 w.heap.size _ ((blk_cell (blk_new w (.cells #[.int .i64 a0] 3)) 0).trans rfl)).mono ?_
  rintro e w1 ⟨hp, hb⟩
  have HB := Aside0.mk ((below_alloc (Below.refl _ w) (.cells #[.int .i64 a0] 3 (0, 0))).trans (hb.mono (by rw [alloc_size]; omega)))
  clear hb
  rcases hp with ⟨j, hj, ha, he, rfl⟩ | ⟨ha, rfl⟩
  · have hc := code_yes hj ha he
    rw [HR.out] at hc
    obtain ⟨rfl, rfl⟩ := Prod.mk.inj hc
    clear hj ha he hc
    go_wp2_with fail
    go_ret2
    exact ⟨rfl, HB.out⟩
  · have hc := code_no ha
    rw [HR.out] at hc
    obtain ⟨rfl, rfl⟩ := Prod.mk.inj hc
    clear ha hc
    go_wp2_with fail
    go_ret2
    exact ⟨rfl, HB.out⟩
end Go.Proofs.Ytaninnkhdhpcgaa.P
