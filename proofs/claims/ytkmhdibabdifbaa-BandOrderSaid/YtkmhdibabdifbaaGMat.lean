/- A row of rows of numbers, each appended to and cut from the front; no conditions. -/
import Derived.Test.YtkmhdibabdifbaaGTwo
import Derived.Test.YtkmhdibabdifbaaWMore
import Derived.Test.YtkmhdibabdifbaaWQPut
namespace Go.Proofs.Ytkmhdibabdifbaa.P
open Go.RowKit Go.Proofs.YtkmhdibabdifbaaW.PrintWords Go.Proofs.YtkmhdibabdifbaaW.PrintLast Go.Proofs.YtkmhdibabdifbaaW.PrintMore
set_option linter.unusedVariables false

/-- A row, cut from the front or not, by its own block. -/
def QX (w : World) (v : Value) (xs : List Int) : Prop := (Kd.int .i64).Q 3 w 0 (fun k => some k = v.ownBlock) v xs
section
variable {w w1 : World} {v : Value} {xs : List Int} {S : Nat → Prop}
theorem QX.of_Q {base : Nat} {ok : Nat → Prop} (h : (Kd.int .i64).Q 3 w base ok v xs) : QX w v xs := Kd.Q_tight rfl (Kd.Q_lower h (Nat.zero_le _))
theorem QX.Q {ok : Nat → Prop} (h : QX w v xs) (hok : ∀ k, v.ownBlock = some k → ok k) : (Kd.int .i64).Q 3 w 0 ok v xs := Kd.Q_mono h (fun k hk => hok k hk.symm)
theorem QX.lt (h : QX w v xs) {k : Nat} (hk : v.ownBlock = some k) : k < w.heap.size := Kd.Q_lt h k hk
theorem QX.typed (h : QX w v xs) {k : Nat} (hk : v.ownBlock = some k) : ∃ cells, w.heap[k]? = some (.cells cells 3 (0, 0)) := Kd.Q_typed h k hk
theorem QX.turn (h : QX w v xs) (ht : Turn S w w1) (hn : ∀ k, v.ownBlock = some k → ¬ S k) : QX w1 v xs := Kd.Q_step h (fun k hk hlt => ht.block k hlt (hn k hk.symm))
theorem QX.nil (w : World) : QX w (.slice none 0 0) [] := Kd.Q_nil _ _ _ _ _
theorem QX.slice (h : QX w v xs) : ∃ A c, v = .slice A xs.length c ∧ xs.length ≤ c := Kd.Q_slice h
theorem QX.ne_cells (h : QX w v xs) {g t : Nat} {cells : Array Value} {fr : Nat × Nat} (hb : w.heap[g]? = some (.cells cells t fr)) (ht : 3 ≠ t) : v.ownBlock ≠ some g := by
  intro hk
  obtain ⟨cs, hc⟩ := h.typed hk
  rw [hb] at hc
  injection hc with hc
  injection hc with _ hc
  exact ht hc.symm
/-- The first number. -/
theorem QX.head {x : Int} (h : QX w v (x :: xs)) : ∃ g o c, v = .slice (some ⟨g, o, none⟩) (xs.length + 1) c ∧ xs.length + 1 ≤ c ∧ w.cell? ⟨g, o, none⟩ = some (.int .i64 x) := by
  obtain ⟨g, o, c, hv, _, _, _⟩ := Kd.Q_form h (by simp)
  subst hv
  have hc := (Kd.Q_reads' h).2.1
  have := (Kd.Q_cell 0 h 0 (by omega) (by simp)).1
  exact ⟨g, o, c, rfl, hc, this⟩
end
structure MatI (w : World) (R N : Nat) (vs : Nat → Value) (L : Nat → List Int) (S : Nat → Prop) : Prop where
  hb : ∃ cs, w.heap[R]? = some (.cells cs 37 (0, 0))
  cell : ∀ j, j < N → w.cell? ⟨R, j, none⟩ = some (vs j)
  row : ∀ j, j < N → QX w (vs j) (L j)
  apart : ∀ i j k, i < N → j < N → (vs i).ownBlock = some k → (vs j).ownBlock = some k → i = j
  sR : S R
  sr : ∀ j k, j < N → (vs j).ownBlock = some k → S k
  lt : ∀ k, S k → k < w.heap.size
/-- A row of N rows at R. -/
def MatP (R N : Nat) (L : Nat → List Int) (w : World) (S : Nat → Prop) : Prop := ∃ vs, MatI w R N vs L S
section
variable {w w1 w2 : World} {R N : Nat} {vs : Nat → Value} {L : Nat → List Int} {S S2 : Nat → Prop}
theorem MatI.turn (h : MatI w R N vs L S) (ht : Turn S2 w w1) (hd : ∀ k, S k → ¬ S2 k) : MatI w1 R N vs L S := by
  obtain ⟨cs, hb⟩ := h.hb
  exact ⟨⟨cs, ht.blk hb (hd R h.sR)⟩, fun j hj => ht.cell (h.cell j hj) (hd R h.sR), fun j hj => (h.row j hj).turn ht (fun k hk => hd k (h.sr j k hj hk)), h.apart, h.sR, h.sr, fun k hk => Nat.lt_of_lt_of_le (h.lt k hk) ht.size⟩
theorem mat_framed (R N : Nat) (L : Nat → List Int) : Framed (MatP R N L) := ⟨fun h ht hd => by
  obtain ⟨vs, h⟩ := h
  exact ⟨vs, h.turn ht hd⟩, fun h => by
  obtain ⟨vs, h⟩ := h
  exact h.lt⟩
theorem MatI.rR (h : MatI w R N vs L S) {j : Nat} (hj : j < N) : (vs j).ownBlock ≠ some R := by
  obtain ⟨cs, hb⟩ := h.hb
  exact (h.row j hj).ne_cells hb (by decide)
theorem MatI.frozen (h : MatI w R N vs L S) (j : Nat) : w.frozen? ⟨R, j, none⟩ = false := by
  obtain ⟨cs, hb⟩ := h.hb
  exact blk_frozen hb j
theorem cell_set_same {a : Addr} {u x : Value} (h : w.cell? a = some x) : (w.setCell a u).cell? a = some u := by
  exact World.cell?_setCell_same w a u h
/-- Row i has turned to v1 (in its own block, or a new one), and is stored. -/
theorem MatI.store (h : MatI w R N vs L S) {i : Nat} (hi : i < N) {v1 : Value} {xs : List Int} (hX : QX w1 v1 xs) (ht : Turn (fun k => (vs i).ownBlock = some k) w w1) (hat : v1.ownBlock = (vs i).ownBlock ∨ ∃ b, v1.ownBlock = some b ∧ w.heap.size ≤ b) :
    MatP R N (fun j => if j = i then xs else L j) (w1.setCell ⟨R, i, none⟩ v1) (fun k => k < w1.heap.size ∧ (S k ∨ w.heap.size ≤ k)) ∧ Turn S w (w1.setCell ⟨R, i, none⟩ v1) := by
  obtain ⟨cs, hb⟩ := h.hb
  have hb1 := ht.blk hb (fun e => h.rR hi e)
  have tS : Turn (fun k => k = R) w1 (w1.setCell ⟨R, i, none⟩ v1) := (Turn.refl (fun k => k = R) _).setCell (.inl rfl) _
  have hne1 : v1.ownBlock ≠ some R := hX.ne_cells hb1 (by decide)
  have hc1 : ∀ j, j < N → w1.cell? ⟨R, j, none⟩ = some (vs j) := fun j hj => ht.cell (h.cell j hj) (fun e => h.rR hi e)
  have hlt : ∀ k, S k → k < w1.heap.size := fun k hk => Nat.lt_of_lt_of_le (h.lt k hk) ht.size
  have hown : ∀ k, v1.ownBlock = some k → S k ∨ w.heap.size ≤ k := by
    intro k hk
    rcases hat with hat | ⟨b, hb, hl⟩
    · exact .inl (h.sr i k hi (by rw [← hat]; exact hk))
    · rw [hb] at hk
      cases hk
      exact .inr hl
  refine ⟨⟨fun j => if j = i then v1 else vs j, ?_, fun j hj => ?_, fun j hj => ?_, fun a b k ha hb hka hkb => ?_, ⟨hlt R h.sR, .inl h.sR⟩, fun j k hj hk => ?_, fun k hk => Nat.lt_of_lt_of_le hk.1 tS.size⟩, (ht.mono (S2 := S) (fun k hk => h.sr i k hi hk)).trans tS (fun k hk => .inl (hk ▸ h.sR))⟩
  · have := blk_set hb1 i v1
    exact ⟨_, this⟩
  · by_cases e : j = i
    · rw [if_pos e, e]
      exact cell_set_same (hc1 i hi)
    · rw [if_neg e]
      rw [World.cell?_setCell_other]
      · exact hc1 j hj
      · intro q
        injection q with _ q
        exact e q.symm
  · by_cases e : j = i
    · rw [if_pos e, if_pos e]
      exact hX.turn tS (fun k hk q => hne1 (by rw [hk, q]))
    · rw [if_neg e, if_neg e]
      exact ((h.row j hj).turn ht (fun k hk hk2 => e (h.apart j i k hj hi hk hk2))).turn tS (fun k hk q => h.rR hj (by rw [hk, q]))
  · have new : ∀ j k, j < N → j ≠ i → v1.ownBlock = some k → (vs j).ownBlock = some k → False := by
      intro j k hj hji hk hk2
      rcases hat with hat | ⟨b, hb, hl⟩
      · exact hji (h.apart j i k hj hi hk2 (by rw [← hat]; exact hk))
      · rw [hb] at hk
        cases hk
        have := (h.row j hj).lt hk2
        omega
    by_cases ea : a = i
    · by_cases eb : b = i
      · rw [ea, eb]
      · rw [if_pos ea] at hka
        rw [if_neg eb] at hkb
        exact (new b k hb eb hka hkb).elim
    · by_cases eb : b = i
      · rw [if_neg ea] at hka
        rw [if_pos eb] at hkb
        exact (new a k ha ea hkb hka).elim
      · rw [if_neg ea] at hka
        rw [if_neg eb] at hkb
        exact h.apart a b k ha hb hka hkb
  · by_cases e : j = i
    · rw [if_pos e] at hk
      exact ⟨hX.lt hk, hown k hk⟩
    · rw [if_neg e] at hk
      exact ⟨hlt k (h.sr j k hj hk), .inl (h.sr j k hj hk)⟩
end
end Go.Proofs.Ytkmhdibabdifbaa.P
