/- GuardSeals over plain numbers and texts; no conditions. -/
import Derived.Test.YthgnhhdblbiihaaPsignalboxlaw40GuardSeals
import Derived.Test.YthgnhhdblbiihaaGGuardRef
namespace Go.Proofs.Ythgnhhdblbiihaa.Pure
open Go.RowKit Go.Proofs.Ythgnhhdblbiihaa.P Go.Proofs.YthgnhhdblbiihaaW.PrintWords Go.Proofs.YthgnhhdblbiihaaW.PrintLast
set_option linter.unusedVariables false

/-- What is sealed, taken as opened under any identifier. -/
theorem open_seal (id other c : Int) (m : ByteArray) (h : 0 ≤ c ∧ c < 15 ∧ m.size ≤ 62 ∧ 0 ≤ id ∧ id ≤ 255) :
    openP other (sealP id c m).1 = if 0 ≤ other ∧ other ≤ 255 then (if chk other.toNat (byte1 c.toNat ++ m) = chk id.toNat (byte1 c.toNat ++ m) then (c, m, 0) else (0, ⟨#[]⟩, 3)) else (0, ⟨#[]⟩, 2) := by
  have es : (sealP id c m).1 = byte1 c.toNat ++ m ++ byte1 (chk id.toNat (byte1 c.toNat ++ m)) := by unfold sealP; rw [if_pos h]
  rw [es]
  generalize hk : chk id.toNat (byte1 c.toNat ++ m) = k
  have hk2 : k < 256 := by rw [← hk]; exact chk_lt _ _
  have hz : (byte1 c.toNat ++ m ++ byte1 k).size = m.size + 2 := by rw [ByteArray.size_append, ByteArray.size_append, byte1_size, byte1_size]; omega
  have b0 : bt (byte1 c.toNat ++ m ++ byte1 k) 0 = c := by
    rw [ba_append_assoc, bt_head1 c.toNat (by omega)]; omega
  have eh : (byte1 c.toNat ++ m ++ byte1 k).extract 0 (m.size + 1) = byte1 c.toNat ++ m := by
    apply ba_ext
    rw [ba_extract, ba_append, List.drop_zero, List.take_left' (by rw [ba_length, ByteArray.size_append, byte1_size]; omega)]
  have em : (byte1 c.toNat ++ m ++ byte1 k).extract 1 (m.size + 1) = m := by
    apply ba_ext
    rw [ba_extract, ba_append, ba_append, byte1_list, List.append_assoc, List.singleton_append, List.drop_succ_cons, List.drop_zero, List.take_left' (by rw [ba_length]; omega)]
  have bl : bt (byte1 c.toNat ++ m ++ byte1 k) ((m.size + 1 : Nat) : Int) = (k : Int) := by
    have := (last_byte (byte1 c.toNat ++ m ++ byte1 k) (by omega) k hk2).1 (by rw [hz, show m.size + 2 - 1 = m.size + 1 from by omega, eh])
    rw [hz, show m.size + 2 - 1 = m.size + 1 from by omega] at this
    exact this
  unfold openP
  by_cases ho : 0 ≤ other ∧ other ≤ 255
  · have it := open_iff other (byte1 c.toNat ++ m ++ byte1 k) ho
    rw [hz, show m.size + 2 - 1 = m.size + 1 from by omega, eh, bl, b0, em] at it
    rw [if_pos ho, if_pos ho, hz, show m.size + 2 - 1 = m.size + 1 from by omega, b0, em]
    by_cases e : chk other.toNat (byte1 c.toNat ++ m) = k
    · rw [if_pos e, if_pos (it.2 ⟨by omega, by omega, by omega, by omega⟩)]
    · rw [if_neg e, if_neg (fun q => e (by have := (it.1 q).2.2.2; omega))]
  · rw [if_neg ho, if_neg ho]

theorem GuardSeals : signalboxlaw40_GuardSeals.Pure := by
  intro id other c m _ _ _ hm
  obtain ⟨K, hK⟩ : ∃ K, K = 980 := ⟨_, rfl⟩
  refine ⟨K + 14, ?_⟩
  unfold signalboxlaw40_GuardSeals.f
  by_cases h : (m.size : Int) > 200
  · rw [if_pos h, show K + 14 = (K + 4) + 10 from rfl, alive40]; rfl
  rw [if_neg h, seal_f (K + 13), check_f id m (by omega), refChk_f id m (by omega) _ (by omega)]
  simp only [Option.bind_some]
  have fin : ∀ b, b = false → signalboxlaw40_GuardSeals.j0 (K + 14) id other c m (sealP id c m).1 (sealP id c m).2 b = some true := by
    rintro b rfl
    have J1 : ∀ b : Bool, (b = true ↔ ¬ (0 ≤ c ∧ c < 15 ∧ m.size ≤ 62 ∧ 0 ≤ id ∧ id ≤ 255)) → signalboxlaw40_GuardSeals.j1 (K + 13) id other c m (sealP id c m).1 (sealP id c m).2 b = some true := by
      intro b hb
      unfold signalboxlaw40_GuardSeals.j1
      dsimp only
      by_cases hbt : b = true
      · have hn := hb.1 hbt
        have es : sealP id c m = (⟨#[]⟩, 2) := by unfold sealP; rw [if_neg hn]
        rw [if_pos hbt, es, show K + 12 = (K + 2) + 10 from rfl, alive40]
        simp
      · have hy : 0 ≤ c ∧ c < 15 ∧ m.size ≤ 62 ∧ 0 ≤ id ∧ id ≤ 255 := by
          by_cases q : (0 ≤ c ∧ c < 15 ∧ m.size ≤ 62 ∧ 0 ≤ id ∧ id ≤ 255)
          · exact q
          · exact absurd (hb.2 q) hbt
        have es : sealP id c m = (byte1 c.toNat ++ m ++ byte1 (chk id.toNat (byte1 c.toNat ++ m)), 0) := by unfold sealP; rw [if_pos hy]
        have hk := chk_lt id.toNat (byte1 c.toNat ++ m)
        have hz : (byte1 c.toNat ++ m).size = m.size + 1 := by rw [ByteArray.size_append, byte1_size]; omega
        have ec : refChkP id (byte1 c.toNat ++ m) = ((chk id.toNat (byte1 c.toNat ++ m) : Nat) : Int) := by unfold refChkP; rw [if_pos ⟨hy.2.2.2.1, hy.2.2.2.2⟩]
        rw [if_neg hbt]
        simp only [Option.bind_some]
        rw [byte1_mod c hy.1 (by omega), byte1_size, if_pos (by omega), if_pos (by rw [es])]
        rw [refChk_f id (byte1 c.toNat ++ m) (by omega) _ (by omega), ec]
        simp only [Option.bind_some]
        rw [byte1_mod ((chk id.toNat (byte1 c.toNat ++ m) : Nat) : Int) (by omega) (by omega), Int.toNat_natCast, byte1_size, if_pos (by omega)]
        unfold signalboxlaw40_GuardSeals.j2
        dsimp only
        rw [if_neg (by rw [es]; simp)]
        have hzs : (sealP id c m).1.size ≤ 1000 := by rw [es]; dsimp only; rw [ByteArray.size_append, byte1_size]; omega
        rw [open_f (K + 9) id _ (by omega), open_f (K + 9) other _ (by omega), open_seal id id c m hy, open_seal id other c m hy]
        simp only [Option.bind_some]
        simp only [if_pos (show 0 ≤ id ∧ id ≤ 255 from ⟨hy.2.2.2.1, hy.2.2.2.2⟩), if_true]
        rw [refChk_f other (byte1 c.toNat ++ m) (by omega) _ (by omega), refChk_f id (byte1 c.toNat ++ m) (by omega) _ (by omega), ec]
        simp only [Option.bind_some]
        rw [show K + 11 = (K + 1) + 10 from rfl, alive40]
        unfold refChkP
        by_cases ho : 0 ≤ other ∧ other ≤ 255
        · rw [if_pos ho, if_pos ho]
          by_cases e : chk other.toNat (byte1 c.toNat ++ m) = chk id.toNat (byte1 c.toNat ++ m)
          · simp [e]
          · have : ¬ ((chk other.toNat (byte1 c.toNat ++ m) : Nat) : Int) = ((chk id.toNat (byte1 c.toNat ++ m) : Nat) : Int) := by omega
            simp [e]
            exact this
        · rw [if_neg ho, if_neg ho]
          have : ((-1 : Int) == ((chk id.toNat (byte1 c.toNat ++ m) : Nat) : Int)) = false := beq_eq_false_iff_ne.mpr (by omega)
          rw [this]
          rfl
    unfold signalboxlaw40_GuardSeals.j0
    dsimp only
    rw [if_neg (by decide)]
    by_cases h1 : id < 0
    · rw [if_pos h1]; exact J1 true (by simp; omega)
    rw [if_neg h1]
    by_cases h2 : id > 255
    · rw [if_pos h2]; exact J1 true (by simp; omega)
    rw [if_neg h2]
    by_cases h3 : c < 0
    · rw [if_pos h3]; exact J1 true (by simp; omega)
    rw [if_neg h3]
    by_cases h4 : c > 14
    · rw [if_pos h4]; exact J1 true (by simp; omega)
    rw [if_neg h4]
    exact J1 _ (by simp only [decide_eq_true_eq]; omega)
  unfold refChkP
  by_cases hi : 0 ≤ id ∧ id ≤ 255
  · have hd : decide (((chk id.toNat m : Nat) : Int) ≥ 0) = true := decide_eq_true (by omega)
    simp only [if_pos hi, hd, bne_self_eq_false, if_true]
    rw [if_neg (by decide)]
    exact fin _ rfl
  · simp only [if_neg hi]
    rw [if_neg (by decide), if_neg (by decide)]
    exact fin _ (by decide)
end Go.Proofs.Ythgnhhdblbiihaa.Pure
