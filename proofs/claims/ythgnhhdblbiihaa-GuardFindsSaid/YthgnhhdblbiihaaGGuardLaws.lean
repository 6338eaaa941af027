/- Plain forms of layer 40: data sealed and opened, a verdict. -/
import Derived.Test.YthgnhhdblbiihaaPguardSeal
import Derived.Test.YthgnhhdblbiihaaPguardOpen
import Derived.Test.YthgnhhdblbiihaaPguardGuardjudge
import Derived.Test.YthgnhhdblbiihaaGBase
namespace Go.Proofs.Ythgnhhdblbiihaa.P
open Go.RowKit Go.Proofs.YthgnhhdblbiihaaW.PrintWords Go.Proofs.YthgnhhdblbiihaaW.PrintLast Go.Proofs.YthgnhhdblbiihaaW.PrintMore
set_option linter.unusedVariables false
set_option linter.unusedSimpArgs false

/-- The check of an identifier's and a text's bits. -/
def chk (id : Nat) (s : ByteArray) : Nat := crcN 8 29 (bits8 id s.data.toList).data.toList
theorem isBit_48 (n : Nat) : isBit (UInt8.ofNat (48 + n % 2)) = true := by
  rcases Nat.mod_two_eq_zero_or_one n with h | h <;> rw [h] <;> decide
theorem oct_bits (n : Nat) : (oct n).data.toList.all isBit = true := by
  unfold oct strOfNums bitsL
  simp only [List.all_eq_true]
  intro x hx
  simp only [List.map_map, List.mem_map, List.mem_range] at hx
  obtain ⟨i, hi, rfl⟩ := hx
  unfold bitAt
  dsimp only [Function.comp]
  rw [show (48 + (((n / 2 ^ (8 - 1 - i)) % 2 : Nat) : Int)).toNat = 48 + (n / 2 ^ (8 - 1 - i)) % 2 from by omega]
  exact isBit_48 _
theorem bits8_bits (id : Nat) (l : List UInt8) : (bits8 id l).data.toList.all isBit = true := by
  suffices h : ∀ (l : List UInt8) (a : ByteArray), a.data.toList.all isBit = true → (l.foldl (fun acc x => acc ++ oct x.toNat) a).data.toList.all isBit = true from h l _ (oct_bits id)
  intro l
  induction l with
  | nil => intro a h; exact h
  | cons x l ih => intro a h; rw [List.foldl_cons]; exact ih _ (by rw [ba_append, List.all_append, h, oct_bits]; rfl)
theorem bits8_bitsB (id : Nat) (l : List UInt8) : bitsB (bits8 id l) = true := by
  first | exact bits8_bits id l | (unfold bitsB; exact bits8_bits id l)
theorem chk_lt (id : Nat) (s : ByteArray) : chk id s < 256 := by
  unfold chk crcN
  suffices h : ∀ (l : List UInt8) (n : Nat), n < 256 → l.foldl (crcStep 8 29) n < 256 from h _ 0 (by decide)
  intro l
  induction l with
  | nil => intro n h; exact h
  | cons x l ih => intro n h; rw [List.foldl_cons]; exact ih _ (crcStep_lt 8 29 n x (by decide))
theorem check_f (id : Int) (s : ByteArray) (hs : s.size ≤ 1099511627776) : guard_Check.f id s = some (if 0 ≤ id ∧ id ≤ 255 then (((chk id.toNat s : Nat) : Int), true) else (0, false)) := by
  unfold guard_Check.f
  by_cases h : 0 ≤ id ∧ id ≤ 255
  · rw [if_pos h, if_pos hs, if_pos h]
    unfold crc_Sum.f
    rw [bits8_bitsB]
    rfl
  · rw [if_neg h, if_neg h]
/-- Sealed data. -/
def sealP (id c : Int) (m : ByteArray) : ByteArray × Int :=
  if 0 ≤ c ∧ c < 15 ∧ m.size ≤ 62 ∧ 0 ≤ id ∧ id ≤ 255 then (byte1 c.toNat ++ m ++ byte1 (chk id.toNat (byte1 c.toNat ++ m)), 0) else (⟨#[]⟩, 2)
theorem byte1_mod (x : Int) (h0 : 0 ≤ x) (h1 : x < 256) : strOfNums [x % 256] = byte1 x.toNat := by
  unfold byte1
  rw [show x % 256 = ((x.toNat : Nat) : Int) from by omega]
theorem seal_f (k : Nat) (id c : Int) (m : ByteArray) : guard_Seal.f (k + 1) id c m = some (sealP id c m) := by
  have J : ∀ b : Bool, (b = true ↔ ¬ (0 ≤ c ∧ c < 15 ∧ m.size ≤ 62)) → guard_Seal.j0 (k + 1) id c m b = some (sealP id c m) := by
    intro b hb
    unfold guard_Seal.j0 sealP
    dsimp only
    by_cases h : b = true
    · rw [if_pos h, if_neg (by have := hb.1 h; omega)]
    · have hc : 0 ≤ c ∧ c < 15 ∧ m.size ≤ 62 := by
        by_cases q : (0 ≤ c ∧ c < 15 ∧ m.size ≤ 62)
        · exact q
        · exact absurd (hb.2 q) h
      rw [if_neg h]
      simp only [Option.bind_some]
      rw [byte1_mod c hc.1 (by omega), byte1_size, if_pos (by omega), check_f _ _ (by rw [ByteArray.size_append, byte1_size]; omega)]
      by_cases hi : 0 ≤ id ∧ id ≤ 255
      · have hk := chk_lt id.toNat (byte1 c.toNat ++ m)
        rw [if_pos hi, if_pos ⟨hc.1, hc.2.1, hc.2.2, hi.1, hi.2⟩]
        simp only [Option.bind_some, if_true]
        rw [byte1_mod ((chk id.toNat (byte1 c.toNat ++ m) : Nat) : Int) (by omega) (by omega), Int.toNat_natCast, byte1_size, ByteArray.size_append, byte1_size, if_pos (by omega)]
      · rw [if_neg hi, if_neg (by omega)]
        simp
  unfold guard_Seal.f
  by_cases h0 : c < 0
  · rw [if_pos h0]; exact J true (by simp; omega)
  · rw [if_neg h0]
    by_cases h1 : c ≥ 15
    · rw [if_pos h1]; exact J true (by simp; omega)
    · rw [if_neg h1]
      exact J _ (by simp only [decide_eq_true_eq]; omega)
/-- What was sealed. -/
def openP (id : Int) (s : ByteArray) : Int × ByteArray × Int :=
  if 0 ≤ id ∧ id ≤ 255 then
    (if 2 ≤ s.size ∧ sealP id (bt s 0) (s.extract 1 (s.size - 1)) = (s, 0) then (bt s 0, s.extract 1 (s.size - 1), 0) else (0, ⟨#[]⟩, 3))
  else (0, ⟨#[]⟩, 2)
theorem open_f (k : Nat) (id : Int) (s : ByteArray) (hs : s.size ≤ 4611686018427387904) : guard_Open.f (k + 2) id s = some (openP id s) := by
  have r0 := bt_lt s 0
  have J : ∀ b : Bool, (b = true ↔ ¬ (0 ≤ id ∧ id ≤ 255)) → guard_Open.j0 (k + 2) id s b = some (openP id s) := by
    intro b hb
    unfold guard_Open.j0 openP
    dsimp only
    by_cases h : b = true
    · rw [if_pos h, if_neg (hb.1 h)]
    · have hi : 0 ≤ id ∧ id ≤ 255 := by
        by_cases q : (0 ≤ id ∧ id ≤ 255)
        · exact q
        · exact absurd (hb.2 q) h
      rw [if_neg h, if_pos hi]
      by_cases h2 : (s.size : Int) < 2
      · rw [if_pos h2, if_neg (by omega)]
      · rw [if_neg h2, w64_small ((s.size : Int) - 1) (by omega) (by omega), if_pos (by omega), if_pos (by omega), if_pos (by omega), w64_small (bt s 0) (by omega) (by omega)]
        rw [show (((s.size : Int) - 1).toNat) = s.size - 1 from by omega, seal_f k]
        simp only [Option.bind_some]
        by_cases e : sealP id (bt s 0) (s.extract 1 (s.size - 1)) = (s, 0)
        · rw [if_pos (show 2 ≤ s.size ∧ sealP id (bt s 0) (s.extract 1 (s.size - 1)) = (s, 0) from ⟨by omega, e⟩), e]
          simp
        · rw [if_neg (show ¬ (2 ≤ s.size ∧ sealP id (bt s 0) (s.extract 1 (s.size - 1)) = (s, 0)) from fun q => e q.2)]
          by_cases e2 : (sealP id (bt s 0) (s.extract 1 (s.size - 1))).2 = 0
          · rw [if_pos e2]
            by_cases e1 : (sealP id (bt s 0) (s.extract 1 (s.size - 1))).1 = s
            · exact absurd (Prod.ext e1 e2) e
            · rw [if_neg (fun q => e1 (ba_toList_eq.1 q))]
          · rw [if_neg e2]
  unfold guard_Open.f
  by_cases h0 : id < 0
  · rw [if_pos h0]; exact J true (by simp; omega)
  · rw [if_neg h0]
    exact J _ (by simp only [decide_eq_true_eq]; omega)
end Go.Proofs.Ythgnhhdblbiihaa.P
