/- A clock: Next; no conditions. -/
import Derived.Test.YtbmommikjiikaaaGClock
namespace Go.Proofs.Ytbmommikjiikaaa.P
open Go.RowKit Go.Maps Go.Proofs.YtbmommikjiikaaaW.PrintWords Go.Proofs.YtbmommikjiikaaaW.PrintLast Go.Proofs.YtbmommikjiikaaaW.PrintMore
set_option linter.unusedVariables false
set_option linter.unusedSimpArgs false

/-- n is the least time of L, if there is one. -/
def LeastL (L : List En) (n : Int) (b : Bool) : Prop := (b = false ∧ n = 0 ∧ L = []) ∨ (b = true ∧ (∃ e ∈ L, e.due = n) ∧ ∀ e ∈ L, n ≤ e.due)
def SeenL (L : List En) (left : Int → Bool) (n : Int) (b : Bool) : Prop := (b = false ∧ n = 0 ∧ ∀ e ∈ L, left e.key = true) ∨ (b = true ∧ (∃ e ∈ L, e.due = n) ∧ ∀ e ∈ L, left e.key = false → n ≤ e.due)
theorem seen_start (L : List En) : SeenL L (fun i => (mapOf L i).isSome) 0 false := .inl ⟨rfl, rfl, fun e he => (hasK_iff L e.key).2 ⟨e, he, rfl⟩⟩
theorem key_one {L : List En} (hk : L.Pairwise (fun a b => a.key ≠ b.key)) {x e : En} (hx : x ∈ L) (he : e ∈ L) (h : x.key = e.key) : x = e := by
  have h1 := mapOf_at hk hx
  rw [h, mapOf_at hk he] at h1
  have h2 := Option.some.inj h1
  unfold enV at h2
  cases x
  cases e
  simp at h2
  obtain ⟨h3, h4, h5⟩ := h2
  simp [h3, h4, h5]
theorem seen_take {L : List En} (hk : L.Pairwise (fun a b => a.key ≠ b.key)) {left : Int → Bool} {n : Int} {b : Bool} (h : SeenL L left n b) {e : En} (he : e ∈ L) (hn : b = false ∨ e.due < n) : SeenL L (fun j => left j && !(j == e.key)) e.due true := by
  refine .inr ⟨rfl, ⟨e, he, rfl⟩, fun x hx hl => ?_⟩
  have hl' : left x.key = false ∨ x.key = e.key := by
    cases h1 : left x.key
    · exact .inl rfl
    · right
      simpa [h1] using hl
  rcases hl' with h1 | h1
  · rcases h with ⟨rfl, _, ha⟩ | ⟨rfl, _, ha⟩
    · rw [ha x hx] at h1
      cases h1
    · have := ha x hx h1
      rcases hn with h9 | h9
      · cases h9
      · omega
  · rw [key_one hk hx he h1]
    exact Int.le_refl _
theorem seen_skip {L : List En} (hk : L.Pairwise (fun a b => a.key ≠ b.key)) {left : Int → Bool} {n : Int} (h : SeenL L left n true) {e : En} (he : e ∈ L) (hn : ¬ e.due < n) : SeenL L (fun j => left j && !(j == e.key)) n true := by
  rcases h with ⟨h, _⟩ | ⟨_, hex, ha⟩
  · cases h
  · refine .inr ⟨rfl, hex, fun x hx hl => ?_⟩
    cases h1 : left x.key
    · exact ha x hx h1
    · have h2 : x.key = e.key := by simpa [h1] using hl
      rw [key_one hk hx he h2]
      omega
theorem seen_end {L : List En} {left : Int → Bool} {n : Int} {b : Bool} (h : SeenL L left n b) (hl : ∀ e ∈ L, left e.key = false) : LeastL L n b := by
  rcases h with ⟨rfl, rfl, ha⟩ | ⟨rfl, hex, ha⟩
  · refine .inl ⟨rfl, rfl, ?_⟩
    cases L with
    | nil => rfl
    | cons e L =>
      have h1 := ha e List.mem_cons_self
      rw [hl e List.mem_cons_self] at h1
      cases h1
  · exact .inr ⟨rfl, hex, fun e he => ha e he (hl e he)⟩
set_option maxHeartbeats 8000000 in
set_option maxRecDepth 100000 in
theorem clock_Next {w : World} {g : Nat} {c : CK} {S : Nat → Prop} (ok : COk c) (h : IsClock g c w S) :
    Calls Try.prog 13 #[.pointer (some ⟨g, 0, none⟩)] w fun e w' => (∃ n b, e = .returned (.tuple #[.int .i64 n, .bool b]) ∧ LeastL c.L n b) ∧ Below w.heap.size w w' := by
  obtain ⟨mb, h⟩ := h
  have c1 := h.c1
  have hu := Try.underlying54
  have H := Aside0.mk h
  have OK := Aside0.mk ok
  clear h ok
  go_enter Try.func13, Try.ntmps13
  go_wp2_with (at_range; refine wpList_range_z Try.underlying3 Try.underlying50 rfl _ rfl rfl H.out.map ?_)
  intro w1 hrg ht hs
  have HR := Aside0.mk hrg
  have HT := Aside0.mk ht.to_below
  have HM := Aside0.mk H.out.map.lt
  clear hrg ht hs
  go_wp2_with fail
  go_loopw [4, 5] (fun v4 v5 wr => ∃ n b left cnt, v4 = .int .i64 n ∧ v5 = .bool b ∧ Aside0 (RangeZ Try.prog 3 .i64 wr mb w.heap.size c.L.length (mapOf c.L) left cnt ∧ SeenL c.L left n b ∧ Below w.heap.size w wr)) (fun _ _ wr => wr.rangeLeft mb w.heap.size)
  case atStart => exact ⟨0, false, _, _, rfl, rfl, ⟨HR.out, seen_start _, HT.out⟩⟩
  case round =>
    obtain ⟨n, b, left, cnt, rfl, rfl, HP⟩ := hrel
    clear HR HT
    go_wp2_with (at_next; refine wpList_next_z Try.underlying3 rfl _ rfl rfl HP.out.1 ?_ ?_)
    · intro h0 hl
      have HL := Aside0.mk hl
      clear hl
      go_wp2_with fail
      go_ret2
      refine ⟨⟨n, b, rfl, seen_end HP.out.2.1 (fun e he => HL.out _ (OK.out.wf e he))⟩, HP.out.2.2⟩
    · intro i v w2 cnt2 hi hl hv hrg2 hlt ht hs hen
      obtain ⟨e, he, rfl, rfl⟩ := mapOf_mem hv
      have hen' : (Instr.entry (.pointer (some ⟨w.heap.size, 0, none⟩))).run Try.prog w2 = .ok (.tuple #[.int .i64 e.key, .agg #[.int .i64 e.key, .int .i64 e.due, .int .i64 e.since]]) w2 := hen
      have HB2 := Aside0.mk (ht.below HP.out.2.2 (fun k hk => Nat.le_of_eq hk.symm))
      have HR2 := Aside0.mk hrg2
      have HE := Aside0.mk he
      have HC := Aside0.mk (show ∀ W, Turn (fun _ => False) w2 W → (W.rangeLeft mb w.heap.size < wr.rangeLeft mb w.heap.size ∧ RangeZ Try.prog 3 .i64 W mb w.heap.size c.L.length (mapOf c.L) (fun j => left j && !(j == e.key)) cnt2 ∧ Below w.heap.size w W) from fun W hW => by
        have := HR2.out.turn hW (fun x => x) (fun x => x)
        exact ⟨by rw [this.left_eq, HP.out.1.left_eq]; exact hlt, this, hW.below HB2.out (fun k hk => hk.elim)⟩)
      clear hen hs ht hrg2 hv he hlt
      rcases HP.out.2.1 with ⟨rfl, hn0, _⟩ | ⟨rfl, _⟩
      · go_wp2_with fail
        obtain ⟨m1, r1, b1⟩ := HC.out _ ((Turn.refl (fun _ => False) w2).alloc (.cells #[.int .i64 e.key, .int .i64 e.due, .int .i64 e.since] 54))
        exact ⟨⟨_, _, _, _, rfl, rfl, ⟨r1, seen_take OK.out.keys HP.out.2.1 HE.out (.inl rfl), b1⟩⟩, m1⟩
      · by_cases hd : e.due < n
        · have d1 : decide (e.due < n) = true := decide_eq_true hd
          go_wp2_with fail
          obtain ⟨m1, r1, b1⟩ := HC.out _ ((Turn.refl (fun _ => False) w2).alloc (.cells #[.int .i64 e.key, .int .i64 e.due, .int .i64 e.since] 54))
          exact ⟨⟨_, _, _, _, rfl, rfl, ⟨r1, seen_take OK.out.keys HP.out.2.1 HE.out (.inr hd), b1⟩⟩, m1⟩
        · have d1 : decide (e.due < n) = false := decide_eq_false hd
          go_wp2_with fail
          obtain ⟨m1, r1, b1⟩ := HC.out _ ((Turn.refl (fun _ => False) w2).alloc (.cells #[.int .i64 e.key, .int .i64 e.due, .int .i64 e.since] 54))
          exact ⟨⟨_, _, _, _, rfl, rfl, ⟨r1, seen_skip OK.out.keys HP.out.2.1 HE.out hd, b1⟩⟩, m1⟩
end Go.Proofs.Ytbmommikjiikaaa.P
