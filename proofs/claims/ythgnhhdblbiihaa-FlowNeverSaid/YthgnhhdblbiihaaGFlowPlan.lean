/- Carrying a message, in plain Lean: how the sender and the hearer stand before each next part. -/
import Derived.Test.YthgnhhdblbiihaaGFlowTold
import Derived.Test.YthgnhhdblbiihaaGFlowTake
namespace Go.Proofs.Ythgnhhdblbiihaa.P
open Go.RowKit Go.Proofs.YthgnhhdblbiihaaW.PrintWords Go.Proofs.YthgnhhdblbiihaaW.PrintLast Go.Proofs.YthgnhhdblbiihaaW.PrintMore
set_option linter.unusedVariables false
set_option linter.unusedSimpArgs false

structure FS where
  s : Int
  l : Int
  la : Int
  fl : Int
  f : Bool
def FS.now (q : Int) (x : FS) : Int := if x.f = true then x.la else x.la + q
def FS.next (b q : Int) (x : FS) : FS := if x.s + 1 = b then ⟨0, if b = 0 then -1 else b, x.now q, x.fl + 1, true⟩ else ⟨x.s + 1, x.l - 1, x.now q, x.fl, false⟩
/-- How they stand when j next parts were sent. -/
def stF (b q : Int) : Nat → FS
  | 0 => ⟨0, if b = 0 then -1 else b, 0, 1, true⟩
  | j + 1 => (stF b q j).next b q
theorem stF_ok (b q : Int) (hb : 0 ≤ b ∧ b ≤ 255) (hq : 0 ≤ q ∧ q ≤ 255) (j : Nat) : (0 ≤ (stF b q j).s ∧ (stF b q j).s ≤ j) ∧ ((0 < b → (stF b q j).s < b ∧ (stF b q j).l = b - (stF b q j).s) ∧ (b = 0 → (stF b q j).l = -1 - (stF b q j).s)) ∧ (0 ≤ (stF b q j).la ∧ (stF b q j).la ≤ 255 * j) ∧ (1 ≤ (stF b q j).fl ∧ (stF b q j).fl ≤ 1 + j) ∧ ((stF b q j).la ≤ (stF b q j).now q ∧ (stF b q j).now q ≤ (stF b q j).la + q) := by
  have hnow : ∀ x : FS, x.la ≤ x.now q ∧ x.now q ≤ x.la + q := fun x => by unfold FS.now; split <;> omega
  induction j with
  | zero =>
    refine ⟨?_, ?_, ?_, ?_, hnow _⟩ <;> simp only [stF] <;> (try split) <;> omega
  | succ j ih =>
    have h1 := hnow (stF b q j)
    refine ⟨?_, ?_, ?_, ?_, hnow _⟩ <;> simp only [stF, FS.next] <;> split <;> dsimp only <;> (try split) <;> omega
theorem stF_gap (b q : Int) (hb : 0 < b) (j : Nat) : (stF b q j).s = (j : Int) % b ∧ (stF b q j).fl = 1 + (j : Int) / b ∧ ((stF b q j).f = true ↔ (j : Int) % b = 0) ∧ (stF b q j).now q = q * (j - (j : Int) / b) := by
  induction j with
  | zero => refine ⟨by simp [stF], by simp [stF], by simp [stF], by simp [stF, FS.now]⟩
  | succ j ih =>
    obtain ⟨i1, i2, i3, i4⟩ := ih
    have e := Int.emod_add_mul_ediv (j : Int) b
    have m0 := Int.emod_nonneg (j : Int) (by omega : b ≠ 0)
    have m1 := Int.emod_lt_of_pos (j : Int) hb
    by_cases h : (stF b q j).s + 1 = b
    · have e2 : ((j + 1 : Nat) : Int) = b * ((j : Int) / b + 1) := by rw [Int.mul_add]; omega
      have hd : ((j + 1 : Nat) : Int) / b = (j : Int) / b + 1 := by rw [e2]; exact Int.mul_ediv_cancel_left _ (by omega)
      have hm : ((j + 1 : Nat) : Int) % b = 0 := by rw [e2]; exact Int.mul_emod_right _ _
      have hn : stF b q (j + 1) = ⟨0, if b = 0 then -1 else b, (stF b q j).now q, (stF b q j).fl + 1, true⟩ := by rw [stF, FS.next, if_pos h]
      rw [hn, hd, hm]
      refine ⟨rfl, by dsimp only; omega, by simp, ?_⟩
      simp only [FS.now, if_true]
      have i4' := i4
      unfold FS.now at i4'
      rw [i4']
      congr 1
      omega
    · have hm2 : 0 ≤ (j : Int) % b + 1 ∧ (j : Int) % b + 1 < b := by omega
      have e2 : ((j + 1 : Nat) : Int) = ((j : Int) % b + 1) + b * ((j : Int) / b) := by omega
      have hd : ((j + 1 : Nat) : Int) / b = (j : Int) / b := by rw [e2, Int.add_mul_ediv_left _ _ (by omega), Int.ediv_eq_zero_of_lt hm2.1 hm2.2]; omega
      have hm : ((j + 1 : Nat) : Int) % b = (j : Int) % b + 1 := by rw [e2, Int.add_mul_emod_self_left, Int.emod_eq_of_lt hm2.1 hm2.2]
      have hn : stF b q (j + 1) = ⟨(stF b q j).s + 1, (stF b q j).l - 1, (stF b q j).now q, (stF b q j).fl, false⟩ := by rw [stF, FS.next, if_neg h]
      rw [hn, hd, hm]
      refine ⟨by dsimp only; omega, by dsimp only; omega, by constructor <;> intro hh <;> first | (cases hh) | omega, ?_⟩
      show (if false = true then (stF b q j).now q else (stF b q j).now q + q) = _
      rw [if_neg (by decide), i4]
      rw [show (((j + 1 : Nat) : Int) - (j : Int) / b) = ((j : Int) - (j : Int) / b) + 1 from by omega, Int.mul_add, Int.mul_one]
theorem stF_all (q : Int) (j : Nat) : (stF 0 q j).fl = 1 ∧ (stF 0 q j).now q = q * j ∧ 0 ≤ (stF 0 q j).s := by
  induction j with
  | zero => simp [stF, FS.now]
  | succ j ih =>
    obtain ⟨i1, i2, i3⟩ := ih
    have hn : stF 0 q (j + 1) = ⟨(stF 0 q j).s + 1, (stF 0 q j).l - 1, (stF 0 q j).now q, (stF 0 q j).fl, false⟩ := by rw [stF, FS.next, if_neg (by omega)]
    rw [hn]
    refine ⟨i1, ?_, by dsimp only; omega⟩
    show (if false = true then (stF 0 q j).now q else (stF 0 q j).now q + q) = _
    rw [if_neg (by decide), i2, show (((j + 1 : Nat) : Int)) = (j : Int) + 1 from by omega, Int.mul_add, Int.mul_one]

def carryP (m : ByteArray) (room block gap : Int) : ByteArray × Int × Int × Int × Int :=
  if m.size = 0 then (⟨#[]⟩, 0, 0, 0, 2)
  else if m.size > 4095 then (⟨#[]⟩, 0, 0, 0, 9)
  else if (m.size : Int) > room then (⟨#[]⟩, 0, 0, 0, 9)
  else if m.size ≤ 7 then (m, 1, 0, 0, 0)
  else (m, 1 + (nextMany m.size : Int), (stF (clampB block) (clampB gap) (nextMany m.size - 1)).fl, (stF (clampB block) (clampB gap) (nextMany m.size - 1)).now (clampB gap), 0)
def flow_Carry.f (m : ByteArray) (room block gap : Int) : Option (ByteArray × Int × Int × Int × Int) := some (carryP m room block gap)

def heardM (m : ByteArray) (j : Nat) : ByteArray := m.extract 0 (min (6 + 7 * j) m.size)
/-- How they stand whenever the label is reached. -/
def CaOk (m : ByteArray) (room b q : Int) (R : ByteArray × Int × Int × Int × Int) (told : Nat) (left gap : Int) (free : Bool) (last : Int) (s3 : ByteArray) (s4 s5 s6 : Int) (s7 : ByteArray) (s8 : Bool) (p f t : Int) : Prop :=
  (told = 0 ∧ left = 0 ∧ gap = 0 ∧ free = true ∧ last = 0 ∧ s3 = ⟨#[]⟩ ∧ s4 = 0 ∧ s5 = 0 ∧ s6 = 0 ∧ s7 = ⟨#[]⟩ ∧ s8 = false ∧ p = 0 ∧ f = 0 ∧ t = 0)
  ∨ (∃ j, told = j + 1 ∧ j < nextMany m.size ∧ 8 ≤ m.size ∧ (m.size : Int) ≤ room ∧ left = (stF b q j).l ∧ gap = q ∧ free = (stF b q j).f ∧ last = (stF b q j).la ∧ s3 = heardM m j ∧ s4 = m.size ∧ s5 = ((j + 1) % 16 : Nat) ∧ s6 = (stF b q j).s ∧ s7 = ⟨#[]⟩ ∧ s8 = false ∧ p = (j : Int) + 1 ∧ f = (stF b q j).fl ∧ (stF b q j).la ≤ t ∧ t ≤ (stF b q j).now q)
  ∨ (told = (splitL m).length ∧ s7 = m ∧ R = (m, p, f, t, 0) ∧ (0 ≤ p ∧ p ≤ 1000) ∧ (0 ≤ f ∧ f ≤ 1000) ∧ (0 ≤ t ∧ t ≤ 200000) ∧ (-1000 ≤ left ∧ left ≤ 1000))

theorem heard_all (m : ByteArray) (j : Nat) (h : m.size ≤ 6 + 7 * j) : heardM m j = m := by
  unfold heardM
  rw [show min (6 + 7 * j) m.size = m.size from by omega]
  exact ByteArray.extract_zero_size
theorem heard_more (m : ByteArray) (j : Nat) : heardM m j ++ m.extract (6 + 7 * j) (min (6 + 7 * (j + 1)) m.size) = heardM m (j + 1) := by
  unfold heardM
  by_cases h : 6 + 7 * j ≤ m.size
  · rw [show min (6 + 7 * j) m.size = 6 + 7 * j from by omega, ByteArray.extract_append_extract]
    rw [show min 0 (6 + 7 * j) = 0 from by omega, show max (6 + 7 * j) (min (6 + 7 * (j + 1)) m.size) = min (6 + 7 * (j + 1)) m.size from by omega]
  · rw [show min (6 + 7 * (j + 1)) m.size = m.size from by omega, show min (6 + 7 * j) m.size = m.size from by omega]
    have : m.extract (6 + 7 * j) m.size = ⟨#[]⟩ := by rw [ba_extract_empty]; omega
    rw [this]
    exact ByteArray.append_empty
theorem heard_size (m : ByteArray) (j : Nat) : (heardM m j).size = min (6 + 7 * j) m.size := by unfold heardM; rw [ba_extract_size]; omega
theorem split_len (m : ByteArray) : (splitL m).length = if m.size ≤ 7 then 1 else 1 + nextMany m.size := by
  unfold splitL
  split
  · rfl
  · simp only [List.length_cons, List.length_map, List.length_range]; omega
theorem split_at (m : ByteArray) (h : ¬ m.size ≤ 7) (j : Nat) (hj : j < nextMany m.size) : (splitL m).getD (j + 1) ⟨#[]⟩ = nextPart m j := by
  unfold splitL
  rw [if_neg h, List.getD_cons_succ]
  simp [List.getD, hj]
theorem split_at0 (m : ByteArray) (h : ¬ m.size ≤ 7) : (splitL m).getD 0 ⟨#[]⟩ = firstPart m := by
  unfold splitL
  rw [if_neg h]
  rfl
theorem split_at7 (m : ByteArray) (h : m.size ≤ 7) : (splitL m).getD 0 ⟨#[]⟩ = byte1 m.size ++ m := by
  unfold splitL
  rw [if_pos h]
  rfl

theorem ca_step (m : ByteArray) (room block gap : Int) (h1 : 1 ≤ m.size) (h2 : m.size ≤ 4095) {b q : Int} (eb : b = clampB block) (eq : q = clampB gap) (hb : 0 ≤ b ∧ b ≤ 255) (hq : 0 ≤ q ∧ q ≤ 255) {told : Nat} {left gp : Int} {free : Bool} {last : Int} {s3 : ByteArray} {s4 s5 s6 : Int} {s7 : ByteArray} {s8 : Bool} {p f t : Int}
    (h : CaOk m room b q (carryP m room block gap) told left gp free last s3 s4 s5 s6 s7 s8 p f t) (ht : told < (splitL m).length) (hn : free = true ∨ gp ≤ t - last) (X : ByteArray × Int × InT)
    (hX : X = takeIn room b q s3 s4 s5 s6 s7 s8 (readE ((splitL m).getD told ⟨#[]⟩)).1 (readE ((splitL m).getD told ⟨#[]⟩)).2.1 (readE ((splitL m).getD told ⟨#[]⟩)).2.2.1 (readE ((splitL m).getD told ⟨#[]⟩)).2.2.2) :
    (carryP m room block gap = (⟨#[]⟩, 0, 0, 0, X.2.1) ∧ X.2.1 ≠ 0)
    ∨ (∃ t3 t4 t5 t6 t7 t8, X = (⟨#[]⟩, 0, room, b, q, t3, t4, t5, t6, t7, t8) ∧ nextWaits (splitL m) told left = false ∧ CaOk m room b q (carryP m room block gap) (told + 1) (nextLeft told left) gp false t t3 t4 t5 t6 t7 t8 (p + 1) f t)
    ∨ (∃ t3 t4 t5 t6 t7 t8, X = (tellP 0 b q, 0, room, b, q, t3, t4, t5, t6, t7, t8) ∧ nextWaits (splitL m) told left = true ∧ CaOk m room b q (carryP m room block gap) (told + 1) (if b = 0 then -1 else b) q true t t3 t4 t5 t6 t7 t8 (p + 1) (f + 1) t) := by
  have hlen := split_len m
  rcases h with ⟨rfl, rfl, rfl, rfl, rfl, rfl, rfl, rfl, rfl, rfl, rfl, rfl, rfl, rfl⟩ | ⟨j, rfl, hj, h8, hr, rfl, hgp, rfl, rfl, rfl, rfl, rfl, rfl, rfl, rfl, rfl, rfl, hl, hu⟩ | ⟨h, _⟩
  · by_cases h7 : m.size ≤ 7
    · rw [if_pos h7] at hlen
      have hR : readE ((splitL m).getD 0 ⟨#[]⟩) = (0, (m.size : Int), m, 0) := by
        rw [split_at7 m h7]
        unfold readE
        rw [read_single m h1 h7]
        rfl
      rw [hR] at hX
      dsimp only at hX
      unfold takeIn at hX
      rw [if_neg (by omega), if_neg (by omega), if_neg (by omega)] at hX
      by_cases hr : (m.size : Int) > room
      · rw [if_pos hr] at hX
        left
        rw [hX]
        refine ⟨?_, (by decide : (9 : Int) ≠ 0)⟩
        unfold carryP
        rw [if_neg (by omega), if_neg (by omega), if_pos hr]
      · rw [if_neg hr, if_pos rfl] at hX
        right; left
        refine ⟨_, _, _, _, _, _, hX, by unfold nextWaits; exact decide_eq_false (fun h => by omega), .inr (.inr ⟨hlen.symm, rfl, ?_, by omega, by omega, by omega, by unfold nextLeft; rw [if_pos rfl]; omega⟩)⟩
        unfold carryP
        rw [if_neg (by omega), if_neg (by omega), if_neg hr, if_pos h7]
        rfl
    · rw [if_neg h7] at hlen
      have hmany : 0 < nextMany m.size := by unfold nextMany; omega
      have hR : readE ((splitL m).getD 0 ⟨#[]⟩) = (1, (m.size : Int), m.extract 0 6, 0) := by
        rw [split_at0 m h7]
        unfold readE
        rw [read_first m (by omega) h2]
        rfl
      rw [hR] at hX
      dsimp only at hX
      unfold takeIn at hX
      rw [if_neg (by omega), if_neg (by omega)] at hX
      by_cases hr : (m.size : Int) > room
      · rw [if_pos ⟨hr, rfl⟩] at hX
        left
        rw [hX]
        refine ⟨?_, (by decide : (9 : Int) ≠ 0)⟩
        unfold carryP
        rw [if_neg (by omega), if_neg (by omega), if_pos hr]
      · rw [if_neg (fun h => hr h.1), if_neg hr, if_neg (by omega)] at hX
        right; right
        refine ⟨_, _, _, _, _, _, hX, by unfold nextWaits; exact decide_eq_true ⟨by omega, .inl rfl⟩, .inr (.inl ⟨0, rfl, hmany, by omega, by omega, rfl, rfl, rfl, rfl, ?_, rfl, rfl, rfl, rfl, rfl, rfl, rfl, by simp [stF], by simp [stF, FS.now]⟩)⟩
        unfold heardM
        rw [show min (6 + 7 * 0) m.size = 6 from by omega]
  · have hgp := hgp.symm
    subst hgp
    have h7 : ¬ m.size ≤ 7 := by omega
    rw [if_neg h7] at hlen
    have hin : 6 + 7 * j < m.size := (nextMany_lt m.size j (by omega)).2 hj
    obtain ⟨⟨o1, o2⟩, ⟨o3, o4⟩, ⟨o5, o6⟩, ⟨o7, o8⟩, o9, o10⟩ := stF_ok b q hb hq j
    have hR : readE ((splitL m).getD (j + 1) ⟨#[]⟩) = (2, (((j + 1) % 16 : Nat) : Int), m.extract (6 + 7 * j) (min (6 + 7 * (j + 1)) m.size), 0) := by
      rw [split_at m h7 j hj]
      unfold readE
      rw [read_next m j hin]
      rfl
    have htt : t = (stF b q j).now q := by
      rcases hn with hf | hg
      · unfold FS.now at hu ⊢
        rw [if_pos hf] at hu ⊢
        omega
      · omega
    rw [hR] at hX
    dsimp only at hX
    unfold takeIn at hX
    rw [if_neg (by omega), if_pos rfl] at hX
    unfold moreP at hX
    have hds : (m.extract (6 + 7 * j) (min (6 + 7 * (j + 1)) m.size)).size = min (6 + 7 * (j + 1)) m.size - (6 + 7 * j) := by rw [ba_extract_size]; omega
    have hhs := heard_size m j
    rw [if_neg (by omega), if_neg (by rintro (h | h); exact h rfl; exact h (by rw [hds, hhs]; omega)), heard_more] at hX
    have hhs2 := heard_size m (j + 1)
    by_cases hend : j + 1 = nextMany m.size
    · have hw : m.size ≤ 6 + 7 * (j + 1) := by
        have := nextMany_lt m.size (j + 1) (by omega)
        omega
      rw [if_pos (by rw [hhs2]; omega), heard_all m (j + 1) hw] at hX
      right; left
      refine ⟨_, _, _, _, _, _, hX, by unfold nextWaits; exact decide_eq_false (fun h => by omega), .inr (.inr ⟨by omega, rfl, ?_, ?_, ?_, ?_, ?_⟩)⟩
      · unfold carryP
        rw [if_neg (by omega), if_neg (by omega), if_neg (by omega), if_neg h7, ← eb, ← eq, ← hend, show j + 1 - 1 = j from rfl, ← htt]
        simp only [Prod.mk.injEq, and_true, true_and]
        omega
      all_goals unfold nextMany at hj
      · omega
      · omega
      · omega
      · unfold nextLeft
        rw [if_neg (by omega)]
        by_cases hb0 : b = 0
        · have := o4 hb0; omega
        · have := o3 (by omega); omega
    · have hw : ¬ m.size ≤ 6 + 7 * (j + 1) := by
        have := (nextMany_lt m.size (j + 1) (by omega)).2 (by omega)
        omega
      have hnl : nextLeft (j + 1) (stF b q j).l = (stF b q j).l - 1 := by unfold nextLeft; rw [if_neg (by omega)]
      rw [if_neg (by rw [hhs2]; omega)] at hX
      have hnum : ((((j + 1) % 16 : Nat) : Int) + 1) % 16 = (((j + 1 + 1) % 16 : Nat) : Int) := by omega
      rw [hnum] at hX
      by_cases hfl : (stF b q j).s + 1 = b
      · have hn1 : stF b q (j + 1) = ⟨0, if b = 0 then -1 else b, (stF b q j).now q, (stF b q j).fl + 1, true⟩ := by rw [stF, FS.next, if_pos hfl]
        rw [if_pos hfl] at hX
        right; right
        refine ⟨_, _, _, _, _, _, hX, by unfold nextWaits; rw [hnl]; exact decide_eq_true ⟨by omega, .inr (by have := o3 (by omega); omega)⟩, .inr (.inl ⟨j + 1, rfl, by omega, h8, hr, by rw [hn1], rfl, by rw [hn1], by rw [hn1]; exact htt, rfl, rfl, rfl, by rw [hn1], rfl, rfl, rfl, by rw [hn1], by rw [hn1]; exact Int.le_of_eq htt.symm, ?_⟩)⟩
        rw [hn1]
        show t ≤ (if true = true then (stF b q j).now q else _)
        rw [if_pos rfl]
        omega
      · have hn1 : stF b q (j + 1) = ⟨(stF b q j).s + 1, (stF b q j).l - 1, (stF b q j).now q, (stF b q j).fl, false⟩ := by rw [stF, FS.next, if_neg hfl]
        rw [if_neg hfl] at hX
        right; left
        refine ⟨_, _, _, _, _, _, hX, by unfold nextWaits; rw [hnl]; exact decide_eq_false (fun h => by rcases h.2 with h | h; omega; by_cases hb0 : b = 0; (have := o4 hb0; omega); (have := o3 (by omega); omega)), .inr (.inl ⟨j + 1, rfl, by omega, h8, hr, by rw [hn1, hnl], rfl, by rw [hn1], by rw [hn1]; exact htt, rfl, rfl, rfl, by rw [hn1], rfl, rfl, rfl, by rw [hn1], by rw [hn1]; exact Int.le_of_eq htt.symm, ?_⟩)⟩
        rw [hn1]
        show t ≤ (if false = true then (stF b q j).now q else (stF b q j).now q + q)
        rw [if_neg (by decide)]
        omega
  · exact absurd ht (by omega)
/-- Waiting for one tick. -/
theorem ca_wait {m : ByteArray} {room b q : Int} {R : ByteArray × Int × Int × Int × Int} {told : Nat} {left gp : Int} {free : Bool} {last : Int} {s3 : ByteArray} {s4 s5 s6 : Int} {s7 : ByteArray} {s8 : Bool} {p f t : Int}
    (h : CaOk m room b q R told left gp free last s3 s4 s5 s6 s7 s8 p f t) (ht : told < (splitL m).length) (hn : free = false) (hg : t - last < gp) : CaOk m room b q R told left gp free last s3 s4 s5 s6 s7 s8 p f (t + 1) := by
  rcases h with ⟨rfl, rfl, rfl, rfl, rfl, rfl, rfl, rfl, rfl, rfl, rfl, rfl, rfl, rfl⟩ | ⟨j, rfl, hj, h8, hr, rfl, hgp, rfl, rfl, rfl, rfl, rfl, rfl, rfl, rfl, rfl, rfl, hl, hu⟩ | ⟨h, _⟩
  · cases hn
  · have hgp := hgp.symm
    subst hgp
    refine .inr (.inl ⟨j, rfl, hj, h8, hr, rfl, rfl, rfl, rfl, rfl, rfl, rfl, rfl, rfl, rfl, rfl, rfl, by omega, ?_⟩)
    unfold FS.now
    rw [if_neg (by rw [hn]; decide)]
    omega
  · exact absurd ht (by omega)
theorem ca_bounds {m : ByteArray} {room b q : Int} {R : ByteArray × Int × Int × Int × Int} (h2 : m.size ≤ 4095) (hb : 0 ≤ b ∧ b ≤ 255) (hq : 0 ≤ q ∧ q ≤ 255) {told : Nat} {left gp : Int} {free : Bool} {last : Int} {s3 : ByteArray} {s4 s5 s6 : Int} {s7 : ByteArray} {s8 : Bool} {p f t : Int}
    (h : CaOk m room b q R told left gp free last s3 s4 s5 s6 s7 s8 p f t) : (0 ≤ p ∧ p ≤ 1000) ∧ (0 ≤ f ∧ f ≤ 1000) ∧ (0 ≤ t ∧ t ≤ 200000) ∧ (-1000 ≤ left ∧ left ≤ 1000) ∧ (told < (splitL m).length → inOkB s3 s4 s5 s6 = true ∧ -1000000 ≤ last ∧ last ≤ 1000000) := by
  rcases h with ⟨rfl, rfl, rfl, rfl, rfl, rfl, rfl, rfl, rfl, rfl, rfl, rfl, rfl, rfl⟩ | ⟨j, rfl, hj, h8, hr, rfl, hgp, rfl, rfl, rfl, rfl, rfl, rfl, rfl, rfl, rfl, rfl, hl, hu⟩ | ⟨h, _, _, h1, h2, h3, h4⟩
  · exact ⟨by omega, by omega, by omega, by omega, fun _ => ⟨by decide, by omega⟩⟩
  · obtain ⟨⟨o1, o2⟩, ⟨o3, o4⟩, ⟨o5, o6⟩, ⟨o7, o8⟩, o9, o10⟩ := stF_ok b q hb hq j
    have hj2 : j ≤ 600 := by unfold nextMany at hj; omega
    refine ⟨by omega, by omega, by omega, ?_, fun _ => ⟨?_, by omega⟩⟩
    · by_cases hb0 : b = 0
      · have := o4 hb0; omega
      · have := o3 (by omega); omega
    · have hs := heard_size m j
      unfold inOkB
      simp only [Bool.and_eq_true, decide_eq_true_eq]
      omega
  · exact ⟨h1, h2, h3, h4, fun h' => absurd h' (by omega)⟩
theorem split_bt (m : ByteArray) (h2 : m.size ≤ 4095) (told : Nat) (ht : told < (splitL m).length) : ((splitL m).getD told ⟨#[]⟩).size ≤ 100000 ∧ (splitL m).length ≤ 100000 := by
  have hlen := split_len m
  by_cases h7 : m.size ≤ 7
  · rw [if_pos h7] at hlen
    obtain rfl : told = 0 := by omega
    rw [split_at7 m h7, ByteArray.size_append, byte1_size]
    omega
  · rw [if_neg h7] at hlen
    have hm : nextMany m.size ≤ 4095 := by unfold nextMany; omega
    refine ⟨?_, by omega⟩
    cases told with
    | zero =>
      rw [split_at0 m h7]
      unfold firstPart
      rw [ByteArray.size_append, ByteArray.size_append, byte1_size, byte1_size, ba_extract_size]
      omega
    | succ j =>
      rw [split_at m h7 j (by omega)]
      unfold nextPart
      rw [ByteArray.size_append, byte1_size, ba_extract_size]
      omega
end Go.Proofs.Ythgnhhdblbiihaa.P
