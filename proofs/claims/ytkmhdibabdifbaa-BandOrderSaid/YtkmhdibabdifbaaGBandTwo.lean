/- The methods of the two queues, beside each other; no conditions. -/
import Derived.Test.YtkmhdibabdifbaaGBandPlain
import Derived.Test.YtkmhdibabdifbaaGTwo
namespace Go.Proofs.Ytkmhdibabdifbaa.P
open Go.RowKit Go.Proofs.YtkmhdibabdifbaaW.PrintWords Go.Proofs.YtkmhdibabdifbaaW.PrintLast
set_option linter.unusedVariables false

def QP (g n : Nat) (q : BQ) (w : World) (S : Nat → Prop) : Prop := IsBand w g n q S
def RP (h : Nat) (r : RQv) (w : World) (S : Nat → Prop) : Prop := IsRef w h r S
theorem qf (g n : Nat) (q : BQ) : Framed (QP g n q) := ⟨fun h ht hd => IsBand.turn h ht hd, fun h => IsBand.lt h⟩
theorem rf (h : Nat) (r : RQv) : Framed (RP h r) := ⟨fun h ht hd => IsRef.turn h ht hd, fun h => IsRef.lt h⟩
section
variable {w0 w : World} {g n h : Nat} {q : BQ} {r : RQv} {P Q : World → (Nat → Prop) → Prop} {X : Nat → Prop}
theorem Two.own1 {P' : World → (Nat → Prop) → Prop} {f : Nat} {args : Array Value} {R : Ending → Prop} (hQ : Framed Q) (hP' : Framed P') (H : Two w0 w P Q X)
    (hc : ∀ S, P w S → Calls Try.prog f args w fun e w' => R e ∧ ∃ S', P' w' S' ∧ Turn S w w' ∧ (∀ k, S' k → S k ∨ w.heap.size ≤ k)) : Calls Try.prog f args w fun e w' => R e ∧ Two w0 w' P' Q X ∧ KeepX X w w' := by
  obtain ⟨S1, S2, h1, h2, hd, hb, hx, hB⟩ := H
  refine (hc S1 h1).mono ?_
  rintro e w' ⟨hr, S', h1', ht, hs⟩
  exact ⟨hr, Two.step1 hQ hP' ⟨h1, h2, hd, hb, hx, hB⟩ h1' ht hs (fun k hk => hQ.lt h2 k hk)⟩
theorem Two.same1 {P' : World → (Nat → Prop) → Prop} {f : Nat} {args : Array Value} {R : Ending → Prop} (hQ : Framed Q) (hP' : Framed P') (H : Two w0 w P Q X)
    (hc : ∀ S, P w S → Calls Try.prog f args w fun e w' => R e ∧ P' w' S ∧ Turn S w w') : Calls Try.prog f args w fun e w' => R e ∧ Two w0 w' P' Q X ∧ KeepX X w w' :=
  H.own1 hQ hP' (fun S hS => (hc S hS).mono (fun e w' hh => ⟨hh.1, S, hh.2.1, hh.2.2, fun k hk => .inl hk⟩))
theorem Two.own2 {Q' : World → (Nat → Prop) → Prop} {f : Nat} {args : Array Value} {R : Ending → Prop} (hP : Framed P) (hQ' : Framed Q') (H : Two w0 w P Q X)
    (hc : ∀ S, Q w S → Calls Try.prog f args w fun e w' => R e ∧ ∃ S', Q' w' S' ∧ Turn S w w' ∧ (∀ k, S' k → S k ∨ w.heap.size ≤ k)) : Calls Try.prog f args w fun e w' => R e ∧ Two w0 w' P Q' X ∧ KeepX X w w' :=
  (H.swap.own1 hP hQ' hc).mono (fun e w' hh => ⟨hh.1, hh.2.1.swap, hh.2.2⟩)
theorem Two.same2 {Q' : World → (Nat → Prop) → Prop} {f : Nat} {args : Array Value} {R : Ending → Prop} (hP : Framed P) (hQ' : Framed Q') (H : Two w0 w P Q X)
    (hc : ∀ S, Q w S → Calls Try.prog f args w fun e w' => R e ∧ Q' w' S ∧ Turn S w w') : Calls Try.prog f args w fun e w' => R e ∧ Two w0 w' P Q' X ∧ KeepX X w w' :=
  (H.swap.same1 hP hQ' hc).mono (fun e w' hh => ⟨hh.1, hh.2.1.swap, hh.2.2⟩)
theorem Two.get1 (H : Two w0 w P Q X) : ∃ S, P w S := by
  obtain ⟨S1, S2, h1, _⟩ := H
  exact ⟨S1, h1⟩
theorem Two.get2 (H : Two w0 w P Q X) : ∃ S, Q w S := by
  obtain ⟨S1, S2, h1, h2, _⟩ := H
  exact ⟨S2, h2⟩
/-- A call that hands back a new row, and keeps all else. -/
theorem Two.row {f : Nat} {args : Array Value} {xs : List Pk} (hP : Framed P) (hQ : Framed Q) (H : Two w0 w P Q X)
    (hc : Calls Try.prog f args w fun e w' => ∃ v, e = .returned v ∧ RowX k31 31 w' v xs ∧ (∀ k, v.ownBlock = some k → w.heap.size ≤ k) ∧ Below w.heap.size w w') :
    Calls Try.prog f args w fun e w' => ∃ v, e = .returned v ∧ RowX k31 31 w' v xs ∧ Two w0 w' P Q (fun k => X k ∨ v.ownBlock = some k) ∧ KeepX X w w' ∧ (∀ k, v.ownBlock = some k → w.heap.size ≤ k) ∧ Below w.heap.size w w' := by
  refine hc.mono ?_
  rintro e w' ⟨v, rfl, hx, hn, hb⟩
  exact ⟨v, rfl, hx, H.protect hP hQ (fun k hk => hk.elim .inl (fun h => .inr ⟨hn k h, hx.lt h⟩)) hb, fun k hk => hb.block k (H.xlt k hk), hn, hb⟩
end
section
variable {w0 w : World} {g n h : Nat} {q : BQ} {r : RQv} {P Q : World → (Nat → Prop) → Prop} {X : Nat → Prop}
theorem two_Put (hQ : Framed Q) (H : Two w0 w (QP g n q) Q X) (band : Int) (p : Pk) (hn : n ≤ 1000000) (ok : BOk q) (hne : q.many ≠ q.room) :
    Calls Try.prog 10 #[.pointer (some ⟨g, 0, none⟩), .int .i64 band, pkV p] w fun e w' => e = .returned (.int .i64 0) ∧ Two w0 w' (QP g (n + 1) (putQ q band p)) Q X ∧ KeepX X w w' :=
  H.own1 hQ (qf _ _ _) (fun S hS => band_Put_yes band p hn ok hne hS)
theorem two_Put_full (hQ : Framed Q) (H : Two w0 w (QP g n q) Q X) (band : Int) (p : Pk) (hne : q.many = q.room) :
    Calls Try.prog 10 #[.pointer (some ⟨g, 0, none⟩), .int .i64 band, pkV p] w fun e w' => e = .returned (.int .i64 5) ∧ Two w0 w' (QP g n q) Q X ∧ KeepX X w w' :=
  H.same1 hQ (qf _ _ _) (fun S hS => band_Put_full band p hne hS)
theorem two_Take (hQ : Framed Q) (H : Two w0 w (QP g n q) Q X) (hn : n ≤ 1000000) (ok : BOk q) (i : Nat) (p : Pk) (t : List Pk) (hi : (i : Int) < q.bands) (hp : q.rows i = p :: t) (hj : ∀ j : Nat, j < i → q.rows j = []) (hm : q.many ≠ 0) (hs : q.stopped = false) :
    Calls Try.prog 12 #[.pointer (some ⟨g, 0, none⟩)] w fun e w' => e = .returned (.tuple #[pkV p, .int .i64 0]) ∧ Two w0 w' (QP g (n + 1) (takeQ q i t)) Q X ∧ KeepX X w w' :=
  H.own1 hQ (qf _ _ _) (fun S hS => band_Take hn ok hS i p t hi hp hj hm hs)
theorem two_Take_no (hQ : Framed Q) (H : Two w0 w (QP g n q) Q X) (hno : q.many = 0 ∨ q.stopped = true) :
    Calls Try.prog 12 #[.pointer (some ⟨g, 0, none⟩)] w fun e w' => e = .returned (.tuple #[pkV pkZ, .int .i64 6]) ∧ Two w0 w' (QP g n q) Q X ∧ KeepX X w w' :=
  H.same1 hQ (qf _ _ _) (fun S hS => band_Take_no hS hno)
theorem two_Stop (hQ : Framed Q) (H : Two w0 w (QP g n q) Q X) :
    Calls Try.prog 14 #[.pointer (some ⟨g, 0, none⟩)] w fun e w' => e = .returned (.tuple #[]) ∧ Two w0 w' (QP g n { q with stopped := true }) Q X ∧ KeepX X w w' :=
  H.same1 hQ (qf _ _ _) (fun S hS => band_Stop hS)
theorem two_Wake (hQ : Framed Q) (H : Two w0 w (QP g n q) Q X) :
    Calls Try.prog 15 #[.pointer (some ⟨g, 0, none⟩)] w fun e w' => e = .returned (.tuple #[]) ∧ Two w0 w' (QP g n { q with stopped := false }) Q X ∧ KeepX X w w' :=
  H.same1 hQ (qf _ _ _) (fun S hS => band_Wake hS)
theorem two_Flush (hQ : Framed Q) (H : Two w0 w (QP g n q) Q X) (hz : q.many ≤ 0 → (∀ i, q.rows i = []) ∧ q.many = 0) :
    Calls Try.prog 22 #[.pointer (some ⟨g, 0, none⟩)] w fun e w' => e = .returned (.int .i64 q.many) ∧ Two w0 w' (QP g n { q with rows := fun _ => [], many := 0 }) Q X ∧ KeepX X w w' :=
  H.same1 hQ (qf _ _ _) (fun S hS => band_Flush hS hz)
theorem two_Len (H : Two w0 w (QP g n q) Q X) :
    Calls Try.prog 16 #[.pointer (some ⟨g, 0, none⟩)] w fun e w' => e = .returned (.int .i64 q.many) ∧ w' = w := by
  obtain ⟨S, hS⟩ := H.get1
  exact band_Len hS
theorem two_Stopped (H : Two w0 w (QP g n q) Q X) :
    Calls Try.prog 13 #[.pointer (some ⟨g, 0, none⟩)] w fun e w' => e = .returned (.bool q.stopped) ∧ w' = w := by
  obtain ⟨S, hS⟩ := H.get1
  exact band_Stopped hS
theorem two_All (hQ : Framed Q) (H : Two w0 w (QP g n q) Q X) (ok : BOk q) :
    Calls Try.prog 17 #[.pointer (some ⟨g, 0, none⟩)] w fun e w' => ∃ v, e = .returned v ∧ RowX k31 31 w' v (allQ q q.bands.toNat) ∧ Two w0 w' (QP g n q) Q (fun k => X k ∨ v.ownBlock = some k) ∧ KeepX X w w' ∧ (∀ k, v.ownBlock = some k → w.heap.size ≤ k) ∧ Below w.heap.size w w' := by
  obtain ⟨S, hS⟩ := H.get1
  exact H.row (qf _ _ _) hQ (band_All ok hS)
theorem two_New (bands room : Int) (hQ : Framed Q) (H : Two w0 w Nought Q X) :
    Calls Try.prog 9 #[.int .i64 bands, .int .i64 room] w fun e w' => ∃ g, e = .returned (.pointer (some ⟨g, 0, none⟩)) ∧ Two w0 w' (QP g 0 ⟨fun _ => [], clampR bands, clampR room, 0, false⟩) Q X ∧ Below w.heap.size w w' := by
  refine (band_New bands room w).mono ?_
  rintro e w' ⟨g, S, rfl, hb, hs, hB⟩
  exact ⟨g, rfl, H.come hQ (P := QP g 0 _) hb hs hB, hB⟩
theorem two_rNew (bands room : Int) (hP : Framed P) (H : Two w0 w P Nought X) :
    Calls Try.prog 19 #[.int .i64 bands, .int .i64 room] w fun e w' => ∃ h, e = .returned (.pointer (some ⟨h, 0, none⟩)) ∧ Two w0 w' P (RP h ⟨[], clampR bands, clampR room, false⟩) X ∧ Below w.heap.size w w' := by
  refine (ref_New bands room w).mono ?_
  rintro e w' ⟨h, S, rfl, hb, hs, hB⟩
  exact ⟨h, rfl, (H.swap.come hP (P := RP h _) hb hs hB).swap, hB⟩
theorem two_rPut (hP : Framed P) (H : Two w0 w P (RP h r) X) (band : Int) (p : Pk) (hf : (r.L.length : Int) ≠ r.room) (hl : r.L.length ≤ 1000000) (hb0 : 1 ≤ r.bands) (hb1 : r.bands ≤ 1000) :
    Calls Try.prog 20 #[.pointer (some ⟨h, 0, none⟩), .int .i64 band, pkV p] w fun e w' => e = .returned (.int .i64 0) ∧ Two w0 w' P (RP h (rput r (atR r.bands band) p)) X ∧ KeepX X w w' :=
  H.own2 hP (rf _ _) (fun S hS => ref_Put band p hS hf hl hb0 hb1)
theorem two_rPut_full (hP : Framed P) (H : Two w0 w P (RP h r) X) (band : Int) (p : Pk) (hf : (r.L.length : Int) = r.room) :
    Calls Try.prog 20 #[.pointer (some ⟨h, 0, none⟩), .int .i64 band, pkV p] w fun e w' => e = .returned (.int .i64 5) ∧ Two w0 w' P (RP h r) X ∧ KeepX X w w' :=
  H.same2 hP (rf _ _) (fun S hS => ref_Put_full band p hS hf)
theorem two_rTake (hP : Framed P) (H : Two w0 w P (RP h r) X) (hl : r.L.length ≤ 1000000) (k : Nat) (hk : k < r.L.length) (hf : fstU r.L r.L.length = (k : Int)) (o : One1) (ho : r.L[k]? = some o) (hs : r.stopped = false) :
    Calls Try.prog 21 #[.pointer (some ⟨h, 0, none⟩)] w fun e w' => e = .returned (.tuple #[pkV o.f1, .bool true]) ∧ Two w0 w' P (RP h (rtake r k)) X ∧ KeepX X w w' :=
  H.own2 hP (rf _ _) (fun S hS => ref_Take hS hl k hk hf o ho hs)
theorem two_rTake_no (hP : Framed P) (H : Two w0 w P (RP h r) X) (hl : r.L.length ≤ 1000000) (hno : fstU r.L r.L.length < 0 ∨ r.stopped = true) :
    Calls Try.prog 21 #[.pointer (some ⟨h, 0, none⟩)] w fun e w' => e = .returned (.tuple #[pkV pkZ, .bool false]) ∧ Two w0 w' P (RP h r) X ∧ KeepX X w w' :=
  H.same2 hP (rf _ _) (fun S hS => ref_Take_no hS hl hno)
theorem two_rAll (hP : Framed P) (H : Two w0 w P (RP h r) X) (hl : r.L.length ≤ 1000000) (hb : r.bands ≤ 1000) :
    Calls Try.prog 23 #[.pointer (some ⟨h, 0, none⟩)] w fun e w' => ∃ v, e = .returned v ∧ RowX k31 31 w' v (allR r.L r.bands.toNat) ∧ Two w0 w' P (RP h r) (fun k => X k ∨ v.ownBlock = some k) ∧ KeepX X w w' ∧ (∀ k, v.ownBlock = some k → w.heap.size ≤ k) ∧ Below w.heap.size w w' := by
  obtain ⟨S, hS⟩ := H.get2
  exact H.row hP (rf _ _) (ref_All hS hl hb)
end
end Go.Proofs.Ytkmhdibabdifbaa.P
