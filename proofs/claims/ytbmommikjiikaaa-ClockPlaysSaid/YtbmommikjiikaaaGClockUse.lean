/- The two clocks beside each other: the document's answers are the clock's; no conditions beyond small numbers. -/
import Derived.Test.YtbmommikjiikaaaGClockRun
import Derived.Test.YtbmommikjiikaaaGClockRef2
namespace Go.Proofs.Ytbmommikjiikaaa.P
open Go.RowKit Go.Proofs.YtbmommikjiikaaaW.PrintWords Go.Proofs.YtbmommikjiikaaaW.PrintLast Go.Proofs.YtbmommikjiikaaaW.PrintMore
set_option linter.unusedVariables false
set_option linter.unusedSimpArgs false

def oneE (e : En) : One1 := ⟨e.key, e.due⟩
def oneL (L : List En) : List One1 := L.map oneE
def refC (c : CK) : RCv := ⟨c.now, oneL c.L⟩
theorem oneL_len (L : List En) : (oneL L).length = L.length := by unfold oneL; simp
theorem out_one (L : List En) (key : Int) : outO (oneL L) key = oneL (outL L key) := by
  unfold outO oneL outL
  rw [List.filter_map]
  rfl
theorem due_one (L : List En) (t : Int) : dueO (oneL L) t = (dueL L t).map (·.key) := by
  unfold dueO oneL dueL
  rw [List.filter_map, List.map_map]
  rfl
theorem rest_one (L : List En) (t : Int) : restO (oneL L) t = oneL (restL L t) := by
  unfold restO oneL restL
  rw [List.filter_map]
  rfl
theorem keys_one {L : List En} (h : L.Pairwise (fun a b => a.key ≠ b.key)) : (oneL L).Pairwise (fun a b => a.f0 ≠ b.f0) := by
  unfold oneL
  exact List.pairwise_map.2 h
theorem has_one (L : List En) (key : Int) : hasO (oneL L) key = hasK L key := by
  cases h : hasK L key
  · refine hasO_no (fun x hx => ?_)
    obtain ⟨e, he, rfl⟩ := List.mem_map.1 hx
    exact hasK_not h e he
  · obtain ⟨e, he, hk⟩ := (hasK_iff L key).1 h
    unfold hasO
    rw [List.any_eq_true]
    exact ⟨oneE e, List.mem_map.2 ⟨e, he, rfl⟩, by show (e.key == key) = true; simpa using hk⟩
theorem atK_mem {L : List En} (hp : L.Pairwise (fun a b => a.key ≠ b.key)) {e : En} (he : e ∈ L) : atK L e.key = e := by
  have h := mapOf_at hp he
  have h2 := mapOf_getD L e.key
  rw [h] at h2
  have h3 : enV e = enV (atK L e.key) := h2
  unfold enV at h3
  generalize atK L e.key = x at h3
  cases e
  cases x
  simp at h3
  obtain ⟨h4, h5, h6⟩ := h3
  simp [h4, h5, h6]
theorem atK_no {L : List En} {key : Int} (h : hasK L key = false) : (atK L key).due = 0 := by
  unfold atK
  have : L.find? (fun e => e.key == key) = none := List.find?_eq_none.2 (fun x hx => by simpa using hasK_not h x hx)
  rw [this]
  rfl
theorem atK_has {L : List En} {key : Int} (h : hasK L key = true) : atK L key ∈ L := by
  unfold hasK mapOf at h
  unfold atK
  cases hf : L.find? (fun e => e.key == key) with
  | none => rw [hf] at h; cases h
  | some e => exact List.mem_of_find?_eq_some hf
theorem dueP_yes {L : List En} (hp : L.Pairwise (fun a b => a.key ≠ b.key)) {key i : Int} (h : DueP (oneL L) key i) (hk : hasK L key = true) : i = (atK L key).due := by
  rcases h with ⟨_, h⟩ | ⟨x, hx, rfl, rfl⟩
  · rw [← has_one, hasO_no h] at hk
    cases hk
  · obtain ⟨e, he, rfl⟩ := List.mem_map.1 hx
    show e.due = (atK L e.key).due
    rw [atK_mem hp he]
theorem dueP_no {L : List En} {key i : Int} (h : DueP (oneL L) key i) (hk : hasK L key = false) : i = -1 := by
  rcases h with ⟨h, _⟩ | ⟨x, hx, rfl, rfl⟩
  · exact h
  · obtain ⟨e, he, rfl⟩ := List.mem_map.1 hx
    exact absurd rfl (hasK_not hk e he)
theorem nextP_yes {L : List En} {n i : Int} (h : NextP (oneL L) i) (hl : LeastL L n true) : i = n := by
  rcases hl with ⟨h1, _⟩ | ⟨_, ⟨e, he, rfl⟩, ha⟩
  · cases h1
  · rcases h with ⟨_, h⟩ | ⟨⟨x, hx, rfl⟩, hb⟩
    · have : oneE e ∈ oneL L := List.mem_map.2 ⟨e, he, rfl⟩
      rw [h] at this
      cases this
    · obtain ⟨y, hy, rfl⟩ := List.mem_map.1 hx
      have h1 := hb (oneE e) (List.mem_map.2 ⟨e, he, rfl⟩)
      have h2 := ha y hy
      have h3 : y.due ≤ e.due := h1
      show y.due = e.due
      omega
theorem nextP_no {L : List En} {n i : Int} (h : NextP (oneL L) i) (hl : LeastL L n false) : i = -1 := by
  rcases hl with ⟨_, _, rfl⟩ | ⟨h1, _⟩
  · rcases h with ⟨h, _⟩ | ⟨⟨x, hx, _⟩, _⟩
    · exact h
    · cases hx
  · cases h1
theorem rf (h : Nat) (r : RCv) : Framed (IsRef h r) := ⟨fun H ht hd => IsRef.turn H ht hd, fun H => IsRef.lt H⟩
section
variable {w0 w w1 : World} {g h : Nat} {c : CK} {r : RCv} {P Q : World → (Nat → Prop) → Prop} {X : Nat → Prop}
theorem Two.drew (hP : Framed P) (hQ : Framed Q) (H : Two w0 w P Q X) : Two w0 w.drew P Q X := H.quiet hP hQ (Below.refl _ _).drew
theorem tick_ref (c : CK) : refC (tickC c) = ⟨(refC c).now + 1, restO (refC c).L ((refC c).now + 1)⟩ := by
  unfold refC tickC
  simp only [rest_one]
theorem two_rDue (hP : Framed P) (ok : COk c) (H : Two w0 w P (IsRef h (refC c)) X) (key i : Int) (hi : (hasK c.L key = true ∧ i = (atK c.L key).due) ∨ (hasK c.L key = false ∧ i = -1)) :
    Calls Try.prog 21 #[.pointer (some ⟨h, 0, none⟩), .int .i64 key] w fun e w' => e = .returned (.int .i64 i) ∧ Two w0 w' P (IsRef h (refC c)) X ∧ KeepX X w w' := by
  obtain ⟨S, hS⟩ := H.get2
  refine (H.still hP (rf _ _) (ref_Due key hS (by show (oneL c.L).length ≤ _; rw [oneL_len]; have := ok.len; omega))).mono ?_
  rintro e w' ⟨⟨j, rfl, hj⟩, r⟩
  refine ⟨?_, r⟩
  rcases hi with ⟨hk, rfl⟩ | ⟨hk, rfl⟩
  · rw [dueP_yes ok.keys hj hk]
  · rw [dueP_no hj hk]
theorem two_rNext (hP : Framed P) (ok : COk c) (H : Two w0 w P (IsRef h (refC c)) X) (n i : Int) (b : Bool) (hl : LeastL c.L n b) (hi : (b = true ∧ i = n) ∨ (b = false ∧ i = -1)) :
    Calls Try.prog 22 #[.pointer (some ⟨h, 0, none⟩)] w fun e w' => e = .returned (.int .i64 i) ∧ Two w0 w' P (IsRef h (refC c)) X ∧ KeepX X w w' := by
  obtain ⟨S, hS⟩ := H.get2
  refine (H.still hP (rf _ _) (ref_Next hS (by show (oneL c.L).length ≤ _; rw [oneL_len]; have := ok.len; omega) (fun x hx => by
    obtain ⟨e, he, rfl⟩ := List.mem_map.1 hx
    have h1 := (ok.due e he).1
    have h2 := ok.n0
    show 0 ≤ e.due
    omega))).mono ?_
  rintro e w' ⟨⟨j, rfl, hj⟩, r⟩
  refine ⟨?_, r⟩
  rcases hi with ⟨rfl, rfl⟩ | ⟨rfl, rfl⟩
  · rw [nextP_yes hj hl]
  · rw [nextP_no hj hl]
theorem two_rCancel (hP : Framed P) (ok : COk c) (H : Two w0 w P (IsRef h (refC c)) X) (key : Int) :
    Calls Try.prog 17 #[.pointer (some ⟨h, 0, none⟩), .int .i64 key] w fun e w' => e = .returned (.bool (hasK c.L key)) ∧ Two w0 w' P (IsRef h (refC (cancelC c key))) X ∧ KeepX X w w' := by
  refine (H.own2 hP (rf h (refC (cancelC c key))) (fun S hS => ref_Cancel key hS (by show (oneL c.L).length ≤ _; rw [oneL_len]; have := ok.len; omega) (keys_one ok.keys) |>.mono ?_))
  rintro e w' ⟨he, S', hI, ht, hs⟩
  refine ⟨?_, S', ?_, ht, hs⟩
  · rw [he]
    show Ending.returned (.bool (hasO (oneL c.L) key)) = _
    rw [has_one]
  · have e1 : refC (cancelC c key) = ⟨(refC c).now, outO (refC c).L key⟩ := by
      show (⟨c.now, oneL (outL c.L key)⟩ : RCv) = ⟨c.now, outO (oneL c.L) key⟩
      rw [out_one]
    rw [e1]
    exact hI
theorem two_rTick (hP : Framed P) (ok : COk c) (H : Two w0 w P (IsRef h (refC c)) X) :
    Calls Try.prog 18 #[.pointer (some ⟨h, 0, none⟩)] w fun e w' => ∃ v, e = .returned v ∧ RowX (Kd.int .i64) 3 w' v (rowC c) ∧ Two w0 w' P (IsRef h (refC (tickC c))) (fun k => X k ∨ v.ownBlock = some k) ∧ KeepX X w w' ∧ (∀ k, v.ownBlock = some k → w.heap.size ≤ k) := by
  refine H.tick2 hP (rf _ _) (fun S hS => (ref_Tick ok.n0 ok.n1 (by show (oneL c.L).length ≤ _; rw [oneL_len]; have := ok.len; omega) hS).mono ?_)
  rintro e w' ⟨v, he, hx, hv, ⟨S', hI, hs, hn⟩, ht⟩
  refine ⟨v, he, ?_, hv, ⟨S', ?_, hs, hn⟩, ht⟩
  · have : dueO (refC c).L ((refC c).now + 1) = rowC c := due_one _ _
    rw [← this]
    exact hx
  · rw [tick_ref]
    exact hI
/-- What Set does, to both. -/
theorem set_both (ok : COk c) {key d : Int} (hk : (Lit.int .i64 key).wf = true) (hs : c.since < 1125899906842624) :
    ∃ (s : Int) (c' : CK), COk c' ∧ c'.now = c.now ∧ c'.since ≤ c.since + 1 ∧
      (∀ {Q : World → (Nat → Prop) → Prop} {W : World} {X : Nat → Prop}, Framed Q → Two w0 W (IsClock g c) Q X → Calls Try.prog 10 #[.pointer (some ⟨g, 0, none⟩), .int .i64 key, .int .i64 d] W fun e w' => e = .returned (.int .i64 s) ∧ Two w0 w' (IsClock g c') Q X ∧ KeepX X W w') ∧
      (∀ {P : World → (Nat → Prop) → Prop} {W : World} {X : Nat → Prop}, Framed P → Two w0 W P (IsRef h (refC c)) X → Calls Try.prog 16 #[.pointer (some ⟨h, 0, none⟩), .int .i64 key, .int .i64 d] W fun e w' => e = .returned (.int .i64 s) ∧ Two w0 w' P (IsRef h (refC c')) X ∧ KeepX X W w') := by
  have hlen := ok.len
  by_cases hd : d < 1 ∨ d > 1099511627776
  · refine ⟨2, c, ok, rfl, by omega, fun hQ H => two_Set_arg hQ H hk hd, fun hP H => ?_⟩
    obtain ⟨S, hS⟩ := H.get2
    exact H.still hP (rf _ _) (ref_Set_arg hd hS)
  · have h1 : 1 ≤ d := by omega
    have h2 : d ≤ 1099511627776 := by omega
    by_cases hm : hasK c.L key = false ∧ c.L.length = 1000
    · refine ⟨9, c, ok, rfl, by omega, fun hQ H => two_Set_many hQ H hk h1 h2 hm.1 hm.2, fun hP H => ?_⟩
      obtain ⟨S, hS⟩ := H.get2
      exact H.still hP (rf _ _) (ref_Set_many h1 h2 (by rw [← hm.1]; exact has_one _ _) (by rw [← hm.2]; exact oneL_len _) hS)
    · have hl : hasK c.L key = true ∨ c.L.length < 1000 := by
        cases hh : hasK c.L key
        · right
          have : c.L.length ≠ 1000 := fun e => hm ⟨hh, e⟩
          omega
        · exact .inl rfl
      refine ⟨0, setC c key d, ok.set hk h1 h2 hs hl, rfl, Int.le_refl _, fun hQ H => two_Set hQ H hk h1 h2 ok hl, fun hP H => ?_⟩
      refine H.own2 hP (rf _ _) (fun S hS => (ref_Set h1 h2 ok.n0 ok.n1 (by show (oneL c.L).length ≤ _; rw [oneL_len]; omega) (keys_one ok.keys) ?_ hS).mono ?_)
      · show hasO (oneL c.L) key = true ∨ (oneL c.L).length ≠ 1000
        rw [has_one, oneL_len]
        rcases hl with hl | hl
        · exact .inl hl
        · exact .inr (by omega)
      · rintro e w' ⟨he, S', hI, ht, hs9⟩
        refine ⟨he, S', ?_, ht, hs9⟩
        have e1 : refC (setC c key d) = ⟨(refC c).now, outO (refC c).L key ++ [⟨key, (refC c).now + d⟩]⟩ := by
          show (⟨c.now, oneL (outL c.L key ++ [⟨key, c.now + d, c.since⟩])⟩ : RCv) = ⟨c.now, outO (oneL c.L) key ++ [⟨key, c.now + d⟩]⟩
          rw [out_one]
          unfold oneL
          rw [List.map_append]
          rfl
        rw [e1]
        exact hI
/-- The document's clock's cells. -/
theorem two_rcells (H : Two w0 w P (IsRef h r) X) : w.cell? ⟨h, 0, none⟩ = some (.int .i64 r.now) ∧ ∃ A k, w.cell? ⟨h, 1, none⟩ = some (.slice A r.L.length k) := by
  obtain ⟨S, v, hI⟩ := H.get2
  obtain ⟨A, k, hv, _, _⟩ := hI.row.reads
  refine ⟨hI.c0, A, k, ?_⟩
  rw [← hv]
  exact hI.c1
/-- What stands while the two clocks are looked at. -/
structure ChkC (w4 W : World) (g h E : Nat) (c : CK) (key : Int) (S1 S2 : Nat → Prop) (A2 : Option Addr) (c2 : Nat) : Prop where
  cl : IsClock g c W S1
  re : IsRef h (refC c) W S2
  be : Below w4.heap.size w4 W
  e1 : W.cell? ⟨E, 1, none⟩ = some (.int .i64 key)
  h0 : W.cell? ⟨h, 0, none⟩ = some (.int .i64 c.now)
  h1 : W.cell? ⟨h, 1, none⟩ = some (.slice A2 c.L.length c2)
theorem ChkC.step {w4 W W1 : World} {E : Nat} {key : Int} {S1 S2 : Nat → Prop} {A2 : Option Addr} {c2 : Nat} (H : ChkC w4 W g h E c key S1 S2 A2 c2) (hb : Below W.heap.size W W1) : ChkC w4 W1 g h E c key S1 S2 A2 c2 := by
  have ht := Turn.of_below hb (fun _ => False)
  exact ⟨H.cl.turn ht (fun _ _ x => x), H.re.turn ht (fun _ _ x => x), H.be.trans (hb.mono H.be.size), ht.cell H.e1 (fun x => x), ht.cell H.h0 (fun x => x), ht.cell H.h1 (fun x => x)⟩
theorem ChkC.start {E : Nat} {key : Int} (H : Two w0 w (IsClock g c) (IsRef h (refC c)) X) (he : w.cell? ⟨E, 1, none⟩ = some (.int .i64 key)) : ∃ S1 S2 A2 c2, ChkC w w g h E c key S1 S2 A2 c2 := by
  obtain ⟨S1, S2, h1, h2, _⟩ := H
  obtain ⟨v, hI⟩ := h2
  obtain ⟨A, k, hv, _, _⟩ := hI.row.reads
  refine ⟨S1, S2, A, k, h1, ⟨v, hI⟩, Below.refl _ _, he, hI.c0, ?_⟩
  have h9 := hI.c1
  rw [hv] at h9
  rw [h9]
  show some (Value.slice A (oneL c.L).length k) = _
  rw [oneL_len]
theorem chk_Due {w4 W : World} {E : Nat} {key k2 : Int} {S1 S2 : Nat → Prop} {A2 : Option Addr} {c2 : Nat} (H : ChkC w4 W g h E c k2 S1 S2 A2 c2) (ok : COk c) (i : Int) (hi : (hasK c.L key = true ∧ i = (atK c.L key).due) ∨ (hasK c.L key = false ∧ i = -1)) :
    Calls Try.prog 21 #[.pointer (some ⟨h, 0, none⟩), .int .i64 key] W fun e w' => e = .returned (.int .i64 i) ∧ ChkC w4 w' g h E c k2 S1 S2 A2 c2 := by
  refine (ref_Due key H.re (by show (oneL c.L).length ≤ _; rw [oneL_len]; have := ok.len; omega)).mono ?_
  rintro e w' ⟨⟨j, rfl, hj⟩, hb⟩
  refine ⟨?_, H.step hb⟩
  rcases hi with ⟨hk, rfl⟩ | ⟨hk, rfl⟩
  · rw [dueP_yes ok.keys hj hk]
  · rw [dueP_no hj hk]
theorem chk_Next {w4 W : World} {E : Nat} {k2 : Int} {S1 S2 : Nat → Prop} {A2 : Option Addr} {c2 : Nat} (H : ChkC w4 W g h E c k2 S1 S2 A2 c2) (ok : COk c) (n i : Int) (b : Bool) (hl : LeastL c.L n b) (hi : (b = true ∧ i = n) ∨ (b = false ∧ i = -1)) :
    Calls Try.prog 22 #[.pointer (some ⟨h, 0, none⟩)] W fun e w' => e = .returned (.int .i64 i) ∧ ChkC w4 w' g h E c k2 S1 S2 A2 c2 := by
  refine (ref_Next H.re (by show (oneL c.L).length ≤ _; rw [oneL_len]; have := ok.len; omega) (fun x hx => by
    obtain ⟨e, he, rfl⟩ := List.mem_map.1 hx
    have h1 := (ok.due e he).1
    have h2 := ok.n0
    show 0 ≤ e.due
    omega)).mono ?_
  rintro e w' ⟨⟨j, rfl, hj⟩, hb⟩
  refine ⟨?_, H.step hb⟩
  rcases hi with ⟨rfl, rfl⟩ | ⟨rfl, rfl⟩
  · rw [nextP_yes hj hl]
  · rw [nextP_no hj hl]
/-- Run: the rows are protected. -/
theorem two_Run (hQ : Framed Q) (ok : COk c) (hm9 : c.now ≤ 1125899906840000) (H : Two w0 w (IsClock g c) Q X) (m : Int) (n : Nat) (hn : n ≤ 1000) (h1 : m < 0 → n = 0) (h2 : 0 ≤ m → m ≤ 1000 → (n : Int) = m) (h3 : 1000 < m → n = 1000) :
    Calls Try.prog 19 #[.pointer (some ⟨g, 0, none⟩), .int .i64 m] w fun e w' => ∃ v, e = .returned v ∧ RowsX w' v (runL c n) w.heap.size ∧ Two w0 w' (IsClock g (ticksC c n)) Q (fun k => X k ∨ (w.heap.size ≤ k ∧ k < w'.heap.size)) ∧ KeepX X w w' := by
  obtain ⟨S1, S2, hc, hq, hd, hb, hx, hB⟩ := H
  refine (clock_Run m n hn h1 h2 h3 ok hm9 hc).mono ?_
  rintro e w' ⟨v, rfl, hR, hc', ht⟩
  have l1 := IsClock.lt hc
  have l2 := hQ.lt hq
  refine ⟨v, rfl, hR, ⟨S1, S2, hc', hQ.turn hq ht (fun k hk hk2 => hd k hk2 hk), hd, fun k hk => ⟨(hb k hk).1, ?_⟩, fun k hk => ?_, ht.below hB (fun k hk => (hb k (.inl hk)).1)⟩, fun k hk => ht.block k (hx k hk) (fun h => (hb k (.inl h)).2 hk)⟩
  · rintro (h9 | h9)
    · exact (hb k hk).2 h9
    · rcases hk with hk | hk
      · have := l1 k hk
        omega
      · have := l2 k hk
        omega
  · rcases hk with hk | hk
    · exact Nat.lt_of_lt_of_le (hx k hk) ht.size
    · exact hk.2
theorem KeepX.rows {v : Value} {Ls : List (List Int)} {Y : Nat → Prop} (h : KeepX X w w1) (hr : RowsY w v Ls Y) (hx : ∀ k, Y k → X k) : RowsY w1 v Ls Y :=
  hr.keep (fun k hk => h k (hx k hk))
end
end Go.Proofs.Ytbmommikjiikaaa.P
