/- Plain facts of layer 35: two lists of texts compared; the parts of a message, read and put together. -/
import Derived.Test.YtbpjbnhhopohgaaGJoin
import Derived.Test.YtbpjbnhhopohgaaPsignalboxref35Same
namespace Go.Proofs.Ytbpjbnhhopohgaa.P
open Go.RowKit Go.Proofs.YtbpjbnhhopohgaaW.PrintWords Go.Proofs.YtbpjbnhhopohgaaW.PrintLast Go.Proofs.YtbpjbnhhopohgaaW.PrintMore
set_option linter.unusedVariables false
set_option linter.unusedSimpArgs false

theorem Same_l (a b : List ByteArray) (hab : a.length = b.length) (hl : a.length ≤ 4611686018427387904) : ∀ (d k i : Nat), a.length - i = d → i ≤ a.length → d < k → (∀ j, j < i → a[j]? = b[j]?) →
    signalboxref35_Same.l0 k a b (i : Int) = some (decide (a = b))
  | 0, k, i, hd, hi, hk, hall => by
    obtain ⟨k, rfl⟩ : ∃ m, k = m + 1 := ⟨k - 1, by omega⟩
    simp only [signalboxref35_Same.l0]
    rw [if_neg (by omega)]
    have : a = b := by
      apply List.ext_getElem?
      intro j
      rcases Nat.lt_or_ge j i with h | h
      · exact hall j h
      · rw [List.getElem?_eq_none (by omega), List.getElem?_eq_none (by omega)]
    simp [this]
  | d + 1, k, i, hd, hi, hk, hall => by
    obtain ⟨k, rfl⟩ : ∃ m, k = m + 1 := ⟨k - 1, by omega⟩
    simp only [signalboxref35_Same.l0]
    have h1 : i < a.length := by omega
    have h2 : i < b.length := by omega
    rw [if_pos (by omega), if_pos (by omega), if_pos (by omega), show rdOf ByteArray.empty a (i : Int) = a[i] by simp [rdOf, h1], show rdOf ByteArray.empty b (i : Int) = b[i] by simp [rdOf, h2], wrap_succ i (by omega)]
    by_cases h : a[i] = b[i]
    · rw [if_pos (by rw [h])]
      refine Same_l a b hab hl d k (i + 1) (by omega) (by omega) (by omega) (fun j hj => ?_)
      rcases Nat.lt_or_ge j i with h' | h'
      · exact hall j h'
      · rw [show j = i from by omega]; simp [h1, h2, h]
    · rw [if_neg (fun e => h (ba_toList_eq.1 e))]
      have : ¬ a = b := fun e => h (by subst e; rfl)
      simp [this]
theorem Same_f (a b : List ByteArray) (k : Nat) (hk : a.length < k) (hl : a.length ≤ 4611686018427387904) : signalboxref35_Same.f k a b = some (decide (a = b)) := by
  unfold signalboxref35_Same.f
  by_cases h : a.length = b.length
  · rw [if_pos (by omega)]
    exact Same_l a b h hl a.length k 0 (by omega) (by omega) hk (fun j hj => absurd hj (Nat.not_lt_zero _))
  · rw [if_neg (by omega)]
    have : ¬ a = b := fun e => h (by rw [e])
    simp [this]
theorem byte1_list (n : Nat) : (byte1 n).data.toList = [UInt8.ofNat n] := by
  unfold byte1 strOfNums
  simp
theorem bt_list (s : ByteArray) (i : Nat) (h : i < s.size) : bt s (i : Int) = ((s.data.toList[i]'(by rw [ba_length]; exact h)).toNat : Int) := by
  rw [bt_nat s i h]
  simp [ByteArray.getElem_eq_getElem_data]
theorem bt_of_list (s : ByteArray) (i : Nat) (x : UInt8) (h : s.data.toList[i]? = some x) : bt s (i : Int) = (x.toNat : Int) := by
  obtain ⟨hi, e⟩ := List.getElem?_eq_some_iff.1 h
  rw [ba_length] at hi
  rw [bt_list s i hi, e]
theorem bt_head1 (n : Nat) (hn : n < 256) (d : ByteArray) : bt (byte1 n ++ d) 0 = n := by
  have := bt_of_list (byte1 n ++ d) 0 (UInt8.ofNat n) (by rw [ba_append, byte1_list]; rfl)
  rw [show ((0 : Nat) : Int) = 0 from rfl] at this
  rw [this, UInt8.toNat_ofNat']
  omega
theorem extract_head1 (n : Nat) (d : ByteArray) : (byte1 n ++ d).extract 1 (byte1 n ++ d).size = d := by
  apply ba_ext
  rw [ba_extract, ba_append, byte1_list, ByteArray.size_append, byte1_size]
  rw [List.singleton_append, List.drop_succ_cons, List.drop_zero]
  rw [show 1 + d.size - 1 = d.data.toList.length from by rw [ba_length]; omega, List.take_length]
theorem bt_head2 (m n : Nat) (hm : m < 256) (hn : n < 256) (d : ByteArray) : bt (byte1 m ++ byte1 n ++ d) 0 = m ∧ bt (byte1 m ++ byte1 n ++ d) 1 = n := by
  have h0 := bt_of_list (byte1 m ++ byte1 n ++ d) 0 (UInt8.ofNat m) (by rw [ba_append, ba_append, byte1_list]; rfl)
  have h1 := bt_of_list (byte1 m ++ byte1 n ++ d) 1 (UInt8.ofNat n) (by rw [ba_append, ba_append, byte1_list, byte1_list]; rfl)
  rw [show ((0 : Nat) : Int) = 0 from rfl] at h0
  rw [show ((1 : Nat) : Int) = 1 from rfl] at h1
  rw [h0, h1, UInt8.toNat_ofNat', UInt8.toNat_ofNat']
  omega
theorem extract_head2 (m n : Nat) (d : ByteArray) : (byte1 m ++ byte1 n ++ d).extract 2 (byte1 m ++ byte1 n ++ d).size = d := by
  apply ba_ext
  rw [ba_extract, ba_append, ba_append, byte1_list, byte1_list, ByteArray.size_append, ByteArray.size_append, byte1_size, byte1_size]
  rw [List.singleton_append, List.cons_append, List.singleton_append, List.drop_succ_cons, List.drop_succ_cons, List.drop_zero]
  rw [show 1 + 1 + d.size - 2 = d.data.toList.length from by rw [ba_length]; omega, List.take_length]
theorem read_single (d : ByteArray) (h1 : 1 ≤ d.size) (h7 : d.size ≤ 7) : readP (byte1 d.size ++ d) = (0, (d.size : Int), d, true) := by
  have b0 := bt_head1 d.size (by omega) d
  have hs : (byte1 d.size ++ d).size = 1 + d.size := by rw [ByteArray.size_append, byte1_size]
  unfold readP
  rw [if_neg (by omega), if_pos ⟨by omega, by omega, by omega⟩, b0, extract_head1]
theorem read_first (s : ByteArray) (h8 : 8 ≤ s.size) (hs : s.size ≤ 4095) : readP (firstPart s) = (1, (s.size : Int), s.extract 0 6, true) := by
  unfold firstPart
  obtain ⟨b0, b1⟩ := bt_head2 (16 + s.size / 256) (s.size % 256) (by omega) (by omega) (s.extract 0 6)
  have hz : (byte1 (16 + s.size / 256) ++ byte1 (s.size % 256) ++ s.extract 0 6).size = 8 := by rw [ByteArray.size_append, ByteArray.size_append, byte1_size, byte1_size, ba_extract_size]; omega
  unfold readP
  rw [if_neg (by omega), if_neg (by omega), if_pos ⟨by omega, by omega, hz, by omega⟩, b0, b1, extract_head2]
  rw [show (((16 + s.size / 256 : Nat) : Int) - 16) * 256 + ((s.size % 256 : Nat) : Int) = (s.size : Int) from by omega]
theorem read_next (s : ByteArray) (j : Nat) (h : 6 + 7 * j < s.size) : readP (nextPart s j) = (2, (((j + 1) % 16 : Nat) : Int), s.extract (6 + 7 * j) (min (6 + 7 * (j + 1)) s.size), true) := by
  unfold nextPart
  have b0 := bt_head1 (32 + (j + 1) % 16) (by omega) (s.extract (6 + 7 * j) (min (6 + 7 * (j + 1)) s.size))
  have hz : (byte1 (32 + (j + 1) % 16) ++ s.extract (6 + 7 * j) (min (6 + 7 * (j + 1)) s.size)).size = 1 + (min (6 + 7 * (j + 1)) s.size - (6 + 7 * j)) := by rw [ByteArray.size_append, byte1_size, ba_extract_size]; omega
  unfold readP
  rw [if_neg (by omega), if_neg (by omega), if_neg (by omega), if_pos ⟨by omega, by omega, by omega, by omega⟩, b0, extract_head1]
  rw [show (((32 + (j + 1) % 16 : Nat) : Int) - 32) = (((j + 1) % 16 : Nat) : Int) from by omega]
theorem join_rest (s : ByteArray) (h8 : 8 ≤ s.size) (hs : s.size ≤ 4095) : ∀ (m j : Nat), j + m = nextMany s.size → joinL ((List.range' j m).map (nextPart s)) (s.extract 0 (min (6 + 7 * j) s.size)) = some s
  | 0, j, h => by
    have : s.size ≤ 6 + 7 * j := by
      have := nextMany_lt s.size j (by omega)
      omega
    rw [Nat.min_eq_right this, ba_extract_all]
    rfl
  | m + 1, j, h => by
    have hj : 6 + 7 * j < s.size := (nextMany_lt s.size j (by omega)).2 (by omega)
    rw [List.range'_succ, List.map_cons]
    unfold joinL
    rw [read_next s j hj]
    rw [if_pos rfl, if_neg (by rw [ba_extract_size]; omega), Nat.min_eq_left (by omega)]
    rw [ba_split s 0 (6 + 7 * j) (min (6 + 7 * (j + 1)) s.size) (by omega) (by omega)]
    exact join_rest s h8 hs m (j + 1) (by omega)
theorem join_split (s : ByteArray) (h1 : 1 ≤ s.size) (hs : s.size ≤ 4095) : joinL (splitL s) ⟨#[]⟩ = some s := by
  unfold splitL
  by_cases h7 : s.size ≤ 7
  · rw [if_pos h7]
    unfold joinL
    rw [read_single s h1 h7, if_pos rfl, if_neg (by decide), ba_nil_append]
    rfl
  · rw [if_neg h7]
    unfold joinL
    rw [read_first s (by omega) hs, if_pos rfl, if_neg (by decide), ba_nil_append, List.range_eq_range']
    have := join_rest s (by omega) hs (nextMany s.size) 0 (by omega)
    rw [Nat.min_eq_left (by omega)] at this
    exact this
theorem joinR_split (s : ByteArray) (h1 : 1 ≤ s.size) (hs : s.size ≤ 4095) : joinR (splitL s) = (s, 0) := by
  unfold joinR
  rw [join_split s h1 hs]
  show joinM _ _ = _
  unfold joinM
  rw [if_pos ⟨h1, hs, rfl⟩]
theorem splitL_sizes (s : ByteArray) : ∀ p ∈ splitL s, p.size ≤ 8 := by
  intro p hp
  unfold splitL at hp
  by_cases h7 : s.size ≤ 7
  · rw [if_pos h7, List.mem_singleton] at hp
    subst hp
    rw [ByteArray.size_append, byte1_size]; omega
  · rw [if_neg h7, List.mem_cons] at hp
    rcases hp with rfl | hp
    · unfold firstPart
      rw [ByteArray.size_append, ByteArray.size_append, byte1_size, byte1_size, ba_extract_size]; omega
    · obtain ⟨j, _, rfl⟩ := List.mem_map.1 hp
      unfold nextPart
      rw [ByteArray.size_append, byte1_size, ba_extract_size]; omega
theorem splitL_length (s : ByteArray) (h1 : 1 ≤ s.size) (hs : s.size ≤ 4095) : ((splitL s).length : Int) = manyP s.size := by
  unfold splitL manyP nextMany
  by_cases h7 : s.size ≤ 7
  · rw [if_pos h7, if_neg (by omega), if_pos (by omega)]; rfl
  · rw [if_neg h7, if_neg (by omega), if_neg (by omega)]
    simp only [List.length_cons, List.length_map, List.length_range]
    omega
end Go.Proofs.Ytbpjbnhhopohgaa.P
