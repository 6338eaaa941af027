/- A clock beside another object: its methods; no conditions beyond small numbers. -/
import Derived.Test.YtbmommikjiikaaaGClockTick
import Derived.Test.YtbmommikjiikaaaGTwoX
namespace Go.Proofs.Ytbmommikjiikaaa.P
open Go.RowKit Go.Proofs.YtbmommikjiikaaaW.PrintWords Go.Proofs.YtbmommikjiikaaaW.PrintLast
set_option linter.unusedVariables false

theorem cf (g : Nat) (c : CK) : Framed (IsClock g c) := ⟨fun h ht hd => IsClock.turn h ht hd, fun h => IsClock.lt h⟩
def c0 : CK := ⟨0, 0, []⟩
theorem COk.c0 : COk c0 := ⟨by decide, by decide, by decide, by decide, by decide, List.Pairwise.nil, List.Pairwise.nil, fun e he => (by cases he), fun e he => (by cases he), fun e he => (by cases he)⟩
section
variable {w0 w : World} {g : Nat} {c : CK} {P Q : World → (Nat → Prop) → Prop} {X : Nat → Prop}
theorem two_New (hQ : Framed Q) (H : Two w0 w Nought Q X) :
    Calls Try.prog 9 #[] w fun e w' => ∃ g, e = .returned (.pointer (some ⟨g, 0, none⟩)) ∧ Two w0 w' (IsClock g c0) Q X ∧ Below w.heap.size w w' := by
  refine (clock_New w).mono ?_
  rintro e w' ⟨g, S, rfl, hc, hs, hB⟩
  exact ⟨g, rfl, H.come hQ (P := IsClock g c0) hc hs hB, hB⟩
theorem two_New2 (hP : Framed P) (H : Two w0 w P Nought X) :
    Calls Try.prog 9 #[] w fun e w' => ∃ g, e = .returned (.pointer (some ⟨g, 0, none⟩)) ∧ Two w0 w' P (IsClock g c0) X ∧ Below w.heap.size w w' := by
  refine (two_New hP H.swap).mono ?_
  rintro e w' ⟨g, rfl, h, hB⟩
  exact ⟨g, rfl, h.swap, hB⟩
theorem two_Set (hQ : Framed Q) (H : Two w0 w (IsClock g c) Q X) {key d : Int} (hk : (Lit.int .i64 key).wf = true) (h1 : 1 ≤ d) (h2 : d ≤ 1099511627776) (ok : COk c) (hl : hasK c.L key = true ∨ c.L.length < 1000) :
    Calls Try.prog 10 #[.pointer (some ⟨g, 0, none⟩), .int .i64 key, .int .i64 d] w fun e w' => e = .returned (.int .i64 0) ∧ Two w0 w' (IsClock g (setC c key d)) Q X ∧ KeepX X w w' :=
  H.same1 hQ (cf _ _) (fun S hS => clock_Set hk h1 h2 ok hl hS)
theorem two_Set_arg (hQ : Framed Q) (H : Two w0 w (IsClock g c) Q X) {key d : Int} (hk : (Lit.int .i64 key).wf = true) (hd : d < 1 ∨ d > 1099511627776) :
    Calls Try.prog 10 #[.pointer (some ⟨g, 0, none⟩), .int .i64 key, .int .i64 d] w fun e w' => e = .returned (.int .i64 2) ∧ Two w0 w' (IsClock g c) Q X ∧ KeepX X w w' := by
  obtain ⟨S, hS⟩ := H.get1
  exact H.still (cf _ _) hQ (clock_Set_arg hk hd hS)
theorem two_Set_many (hQ : Framed Q) (H : Two w0 w (IsClock g c) Q X) {key d : Int} (hk : (Lit.int .i64 key).wf = true) (h1 : 1 ≤ d) (h2 : d ≤ 1099511627776) (hf : hasK c.L key = false) (hl : c.L.length = 1000) :
    Calls Try.prog 10 #[.pointer (some ⟨g, 0, none⟩), .int .i64 key, .int .i64 d] w fun e w' => e = .returned (.int .i64 9) ∧ Two w0 w' (IsClock g c) Q X ∧ KeepX X w w' := by
  obtain ⟨S, hS⟩ := H.get1
  exact H.still (cf _ _) hQ (clock_Set_many hk h1 h2 hf hl hS)
theorem two_Cancel (hQ : Framed Q) (H : Two w0 w (IsClock g c) Q X) {key : Int} (hk : (Lit.int .i64 key).wf = true) (ok : COk c) :
    Calls Try.prog 12 #[.pointer (some ⟨g, 0, none⟩), .int .i64 key] w fun e w' => e = .returned (.bool (hasK c.L key)) ∧ Two w0 w' (IsClock g (cancelC c key)) Q X ∧ KeepX X w w' :=
  H.same1 hQ (cf _ _) (fun S hS => clock_Cancel hk ok hS)
theorem two_Cancel2 (hP : Framed P) (H : Two w0 w P (IsClock g c) X) {key : Int} (hk : (Lit.int .i64 key).wf = true) (ok : COk c) :
    Calls Try.prog 12 #[.pointer (some ⟨g, 0, none⟩), .int .i64 key] w fun e w' => e = .returned (.bool (hasK c.L key)) ∧ Two w0 w' P (IsClock g (cancelC c key)) X ∧ KeepX X w w' :=
  H.same2 hP (cf _ _) (fun S hS => clock_Cancel hk ok hS)
theorem two_Set2 (hP : Framed P) (H : Two w0 w P (IsClock g c) X) {key d : Int} (hk : (Lit.int .i64 key).wf = true) (h1 : 1 ≤ d) (h2 : d ≤ 1099511627776) (ok : COk c) (hl : hasK c.L key = true ∨ c.L.length < 1000) :
    Calls Try.prog 10 #[.pointer (some ⟨g, 0, none⟩), .int .i64 key, .int .i64 d] w fun e w' => e = .returned (.int .i64 0) ∧ Two w0 w' P (IsClock g (setC c key d)) X ∧ KeepX X w w' :=
  H.same2 hP (cf _ _) (fun S hS => clock_Set hk h1 h2 ok hl hS)
theorem tickS {S : Nat → Prop} (ok : COk c) (hn : c.now < 1125899906842624) (h : IsClock g c w S) :
    Calls Try.prog 11 #[.pointer (some ⟨g, 0, none⟩)] w fun e w' => ∃ v, e = .returned v ∧ RowX (Kd.int .i64) 3 w' v ((dueL c.L (c.now + 1)).map (·.key)) ∧ (∀ k, v.ownBlock = some k → w.heap.size ≤ k ∧ k < w'.heap.size) ∧ (∃ S', IsClock g (tickC c) w' S' ∧ (∀ k, S' k → S k ∨ w.heap.size ≤ k) ∧ ∀ k, v.ownBlock = some k → ¬ S' k) ∧ Turn S w w' := by
  refine (clock_Tick ok hn h).mono ?_
  rintro e w' ⟨v, rfl, hx, hv, hc, ht⟩
  exact ⟨v, rfl, hx, fun k hk => ⟨hv k hk, hx.lt hk⟩, ⟨S, hc, fun k hk => .inl hk, fun k hk hs => by have := hv k hk; have := h.lt k hs; omega⟩, ht⟩
theorem two_Tick (hQ : Framed Q) (H : Two w0 w (IsClock g c) Q X) (ok : COk c) (hn : c.now < 1125899906842624) :
    Calls Try.prog 11 #[.pointer (some ⟨g, 0, none⟩)] w fun e w' => ∃ v, e = .returned v ∧ RowX (Kd.int .i64) 3 w' v ((dueL c.L (c.now + 1)).map (·.key)) ∧ Two w0 w' (IsClock g (tickC c)) Q (fun k => X k ∨ v.ownBlock = some k) ∧ KeepX X w w' ∧ (∀ k, v.ownBlock = some k → w.heap.size ≤ k) :=
  H.tick1 hQ (cf _ _) (fun S hS => tickS ok hn hS)
theorem two_Tick2 (hP : Framed P) (H : Two w0 w P (IsClock g c) X) (ok : COk c) (hn : c.now < 1125899906842624) :
    Calls Try.prog 11 #[.pointer (some ⟨g, 0, none⟩)] w fun e w' => ∃ v, e = .returned v ∧ RowX (Kd.int .i64) 3 w' v ((dueL c.L (c.now + 1)).map (·.key)) ∧ Two w0 w' P (IsClock g (tickC c)) (fun k => X k ∨ v.ownBlock = some k) ∧ KeepX X w w' ∧ (∀ k, v.ownBlock = some k → w.heap.size ≤ k) :=
  H.tick2 hP (cf _ _) (fun S hS => tickS ok hn hS)
theorem two_Now (H : Two w0 w (IsClock g c) Q X) :
    Calls Try.prog 23 #[.pointer (some ⟨g, 0, none⟩)] w fun e w' => e = .returned (.int .i64 c.now) ∧ w' = w := by
  obtain ⟨S, hS⟩ := H.get1
  exact clock_Now hS
theorem two_Len (H : Two w0 w (IsClock g c) Q X) :
    Calls Try.prog 15 #[.pointer (some ⟨g, 0, none⟩)] w fun e w' => e = .returned (.int .i64 c.L.length) ∧ w' = w := by
  obtain ⟨S, hS⟩ := H.get1
  exact clock_Len hS
theorem two_Due (hQ : Framed Q) (H : Two w0 w (IsClock g c) Q X) {key : Int} (hk : (Lit.int .i64 key).wf = true) :
    Calls Try.prog 20 #[.pointer (some ⟨g, 0, none⟩), .int .i64 key] w fun e w' => e = .returned (.tuple #[.int .i64 (atK c.L key).due, .bool (hasK c.L key)]) ∧ Two w0 w' (IsClock g c) Q X ∧ KeepX X w w' := by
  obtain ⟨S, hS⟩ := H.get1
  exact H.still (cf _ _) hQ (clock_Due hk hS)
theorem two_Next (hQ : Framed Q) (H : Two w0 w (IsClock g c) Q X) (ok : COk c) :
    Calls Try.prog 13 #[.pointer (some ⟨g, 0, none⟩)] w fun e w' => (∃ n b, e = .returned (.tuple #[.int .i64 n, .bool b]) ∧ LeastL c.L n b) ∧ Two w0 w' (IsClock g c) Q X ∧ KeepX X w w' := by
  obtain ⟨S, hS⟩ := H.get1
  exact H.still (cf _ _) hQ (clock_Next ok hS)
end
/-! ### two rows of numbers, the same or not -/
end Go.Proofs.Ytbmommikjiikaaa.P
