/- Two rows of numbers, the same or not; no conditions beyond their lengths. -/
import Derived.Test.YtaninnkhdhpcgaaGNum
import Derived.Test.YtaninnkhdhpcgaaGObj
import Derived.Test.YtaninnkhdhpcgaaPsignalboxref09Ints
namespace Go.Proofs.Ytaninnkhdhpcgaa.P
open Go.RowKit Go.Proofs.YtaninnkhdhpcgaaW.PrintWords Go.Proofs.YtaninnkhdhpcgaaW.PrintLast
set_option linter.unusedVariables false

theorem ints_same : ∀ (d : Nat) (l : List Int) (i : Nat), l.length - i = d → i ≤ l.length → l.length ≤ 100000 → ∀ k, d < k → signalboxref09_Ints.l0 k l l (i : Int) = some true
  | 0, l, i, hd, hi, hb, k, hk => by
    obtain ⟨k, rfl⟩ : ∃ m, k = m + 1 := ⟨k - 1, by omega⟩
    simp only [signalboxref09_Ints.l0]
    rw [if_neg (by omega)]
  | d + 1, l, i, hd, hi, hb, k, hk => by
    obtain ⟨k, rfl⟩ : ∃ m, k = m + 1 := ⟨k - 1, by omega⟩
    simp only [signalboxref09_Ints.l0]
    rw [if_pos (by omega), if_pos (by omega), if_pos (by omega), if_pos trivial, wrap_succ i (by omega)]
    exact ints_same d l (i + 1) (by omega) (by omega) hb k (by omega)
theorem ints_refl (l : List Int) (hb : l.length ≤ 100000) : signalboxref09_Ints.f (l.length + 1) l l = some true := by
  unfold signalboxref09_Ints.f
  rw [if_pos rfl]
  exact ints_same l.length l 0 (by omega) (by omega) hb _ (by omega)
/-- Two rows that read the same. -/
theorem ints_calls {w : World} {A0 A1 : Option Addr} {c0 c1 : Nat} {l : List Int} (h0 : Kd.C (Kd.int .i64) w A0 l.length l) (hc0 : l.length ≤ c0) (h1 : Kd.C (Kd.int .i64) w A1 l.length l) (hc1 : l.length ≤ c1) (hb : l.length ≤ 100000) :
    Calls Try.prog 16 #[.slice A0 l.length c0, .slice A1 l.length c1] w fun e w' => e = .returned (.bool true) ∧ Below w.heap.size w w' :=
  (signalboxref09_Ints.calls (l.length + 1) A0 c0 l A1 c1 l true w h0 hc0 h1 hc1 (ints_refl l hb)).mono (fun e w' hh => ⟨hh.1, hh.2.below⟩)
end Go.Proofs.Ytaninnkhdhpcgaa.P
