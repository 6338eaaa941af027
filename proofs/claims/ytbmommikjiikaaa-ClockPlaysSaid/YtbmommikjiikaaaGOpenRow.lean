/- A row whose elements can be read one by one, as it comes in; no conditions. -/
import Derived.Test.YtbmommikjiikaaaP0
import Derived.Test.YtbmommikjiikaaaWTab
import Derived.Deep.Slices
import Derived.ChangeArms
import Derived.KernelRfl
namespace Go.Proofs.Ytbmommikjiikaaa.P
open Go.RowKit Go.WideShapes Go.ChangeShapes Go.Proofs.YtbmommikjiikaaaW.PrintWords Go.Proofs.YtbmommikjiikaaaW.PrintLast
set_option linter.unusedVariables false
theorem listK {α : Type} {Pr : Nat → α → Prop} : ∀ n, (∀ i, i < n → ∃ v, Pr i v) → ∃ L : List α, L.length = n ∧ ∀ i v, L[i]? = some v → Pr i v
  | 0, _ => ⟨[], rfl, fun i v hv => by simp at hv⟩
  | q + 1, each => by
    obtain ⟨L, hL, hall⟩ := listK q (fun i hi => each i (by omega))
    obtain ⟨v, hv⟩ := each q (by omega)
    refine ⟨L ++ [v], by simp [hL], fun i u hu => ?_⟩
    by_cases hi : i < q
    · rw [List.getElem?_append_left (by omega)] at hu
      exact hall i u hu
    · have : i = q := by
        have := (List.getElem?_eq_some_iff.1 hu).1
        simp [hL] at this
        omega
      subst this
      rw [List.getElem?_append_right (by omega), hL] at hu
      simp at hu
      subst hu
      exact hv
section
variable {H : Type} {enc : TypeId × Value → H} {w : World} {base : Nat} {spare : Nat → Bool} {held : Bool}
/-- A row whose elements can be read one by one. -/
theorem open_rowK {P : Program} {α : Type} (k : Kd α) {t e : TypeId} (ht : P.underlying t = some (.slice e)) (hsz : P.cellsOf e = k.sz)
    (ho : ∀ (n : Nat) (cs : List Value) (x : DataW H × List MemPlace), DataW.trod enc P w base (fun _ => true) held n e cs = some x → ∃ v, k.K w v cs)
    {fuel : Nat} {a : Option Addr} {len cap : Nat} {x : DataW H × List MemPlace} (h : DataW.trod enc P w base (fun _ => true) held fuel t [.slice a len cap] = some x) :
    ∃ l : List α, len = l.length ∧ k.C w a l.length l ∧ l.length ≤ cap ∧ l.length ≤ maxLen := by
  rcases Go.Deep.open_slice ht h with ⟨hcs, _⟩ | ⟨ad, len', cap', m, n, D, Pl, hcs, _, hl, hm, hmm, _, hx⟩
  · simp at hcs
    obtain ⟨rfl, rfl, rfl⟩ := hcs
    exact ⟨[], rfl, Kd.C_nil _ _, Nat.le_refl _, Nat.zero_le _⟩
  · simp at hcs
    obtain ⟨rfl, rfl, rfl⟩ := hcs
    have hmc : m = cap := by simpa using hmm
    subst hmc
    have each : ∀ i, i < len → ∃ v : α, ∃ cs, k.K w v cs ∧ ∀ j u, cs[j]? = some u → w.cell? (ad.add (i * k.sz + j)) = some u := by
      intro i hi
      obtain ⟨cs, h1, h2⟩ := hx i (by omega)
      obtain ⟨v, hv⟩ := ho n cs _ h2
      refine ⟨v, cs, hv, fun j u hu => ?_⟩
      obtain ⟨_, hlen, hcell⟩ := World.cells?_some h1
      have hj : j < cs.length := (List.getElem?_eq_some_iff.1 hu).1
      rw [hlen, hsz] at hj
      have := hcell j (by rw [hsz]; exact hj)
      rw [add_add, hsz] at this
      rw [this]
      exact hu
    obtain ⟨L, hL, hall⟩ := listK len each
    refine ⟨L, hL.symm, ⟨rfl, by unfold maxLen at hm; omega, fun _ => ⟨ad, rfl, fun j p hp => ?_⟩⟩, by omega, by omega⟩
    obtain ⟨cs, h1, h2⟩ := hall j p hp
    exact ⟨cs, k.K_len h1, h1, h2⟩
end
end Go.Proofs.Ytbmommikjiikaaa.P
