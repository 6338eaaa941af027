/- What is left of a division without carries is the check that is shifted bit by bit; no conditions beyond the widths. -/
import Derived.Test.YtbpjbnhhopohgaaGRefPlain
import Derived.Test.YtbpjbnhhopohgaaGRow
namespace Go.Proofs.Ytbpjbnhhopohgaa.P
open Go.RowKit Go.Proofs.YtbpjbnhhopohgaaW.PrintWords Go.Proofs.YtbpjbnhhopohgaaW.PrintLast Go.Proofs.YtbpjbnhhopohgaaW.PrintMore
set_option linter.unusedVariables false
set_option linter.unusedSimpArgs false

def bI (b : Bool) : Int := if b then 49 else 48
def flipK (q : ByteArray) (i k : Nat) (l : List Int) : List Int := if bt q (k : Int) = 49 then l.set (i + k) ((97 - l.getD (i + k) 0) % 256) else l
def flipL (q : ByteArray) (i : Nat) (l : List Int) : Nat → List Int
  | 0 => l
  | k + 1 => flipK q i k (flipL q i l k)
def divK (q : ByteArray) (W i : Nat) (l : List Int) : List Int := if l.getD i 0 = 49 then flipL q i l (W + 1) else l
def divL (q : ByteArray) (W : Nat) (l : List Int) : Nat → List Int
  | 0 => l
  | i + 1 => divK q W i (divL q W l i)
def byOf (W P : Nat) : ByteArray := (⟨#[49]⟩ : ByteArray) ++ strOfNums (bitsL P W)

theorem flipK_length (q : ByteArray) (i k : Nat) (l : List Int) : (flipK q i k l).length = l.length := by unfold flipK; split <;> simp
theorem flipL_length (q : ByteArray) (i : Nat) (l : List Int) : ∀ k, (flipL q i l k).length = l.length
  | 0 => rfl
  | k + 1 => by rw [flipL, flipK_length, flipL_length q i l k]
theorem divK_length (q : ByteArray) (W i : Nat) (l : List Int) : (divK q W i l).length = l.length := by unfold divK; split <;> simp [flipL_length]
theorem divL_length (q : ByteArray) (W : Nat) (l : List Int) : ∀ i, (divL q W l i).length = l.length
  | 0 => rfl
  | i + 1 => by rw [divL, divK_length, divL_length q W l i]

theorem getD_set (l : List Int) (i j : Nat) (x : Int) (hi : i < l.length) : (l.set i x).getD j 0 = if j = i then x else l.getD j 0 := by
  by_cases e : j = i
  · subst e; simp [List.getD_eq_getElem?_getD, hi]
  · simp [List.getD_eq_getElem?_getD, List.getElem?_set_ne (show i ≠ j from fun h => e h.symm), e]
theorem flipL_getD (q : ByteArray) (i : Nat) (l : List Int) : ∀ (k : Nat), i + k ≤ l.length → ∀ j, (flipL q i l k).getD j 0 = if i ≤ j ∧ j < i + k ∧ bt q ((j - i : Nat) : Int) = 49 then (97 - l.getD j 0) % 256 else l.getD j 0
  | 0, h, j => by simp [flipL]; omega
  | k + 1, h, j => by
    have ih := flipL_getD q i l k (by omega)
    rw [flipL, flipK]
    by_cases hq : bt q (k : Int) = 49
    · rw [if_pos hq, getD_set _ _ _ _ (by rw [flipL_length]; omega)]
      by_cases e : j = i + k
      · subst e
        rw [if_pos rfl, ih, if_neg (by omega), if_pos ⟨by omega, by omega, by rw [show i + k - i = k by omega]; exact hq⟩]
      · rw [if_neg e, ih]
        by_cases c : i ≤ j ∧ j < i + k ∧ bt q ((j - i : Nat) : Int) = 49
        · rw [if_pos c, if_pos ⟨c.1, by omega, c.2.2⟩]
        · rw [if_neg c, if_neg (fun c2 => c ⟨c2.1, by omega, c2.2.2⟩)]
    · rw [if_neg hq, ih]
      by_cases c : i ≤ j ∧ j < i + k ∧ bt q ((j - i : Nat) : Int) = 49
      · rw [if_pos c, if_pos ⟨c.1, by omega, c.2.2⟩]
      · rw [if_neg c, if_neg (fun c2 => c ⟨c2.1, by
          rcases Nat.lt_or_ge j (i + k) with h | h
          · exact h
          · exfalso
            apply hq
            have : j - i = k := by omega
            rw [← this]
            exact c2.2.2, c2.2.2⟩)]

theorem strOfNums_bt (xs : List Int) (i : Nat) (h : i < xs.length) (hr : 0 ≤ xs.getD i 0 ∧ xs.getD i 0 < 256) : bt (strOfNums xs) (i : Int) = xs.getD i 0 := by
  have hs : i < (strOfNums xs).size := by rw [strOfNums_size]; exact h
  rw [bt_nat _ i hs]
  have e : (strOfNums xs)[i] = UInt8.ofNat (xs.getD i 0).toNat := by
    have h2 : (strOfNums xs).data.toList[i]? = some (UInt8.ofNat (xs.getD i 0).toNat) := by
      rw [strOfNums_data]
      simp [List.getD_eq_getElem?_getD, h]
    rw [Array.getElem?_toList] at h2
    have h3 := Array.getElem?_eq_some_iff.1 h2
    exact h3.2
  rw [e]
  have : (xs.getD i 0).toNat < 256 := by omega
  rw [UInt8.toNat_ofNat', Nat.mod_eq_of_lt (show _ < 2 ^ 8 from this)]
  omega
theorem bitAt_bit (n W i : Nat) : bitAt n W i = bI (n.testBit (W - 1 - i)) := by
  unfold bitAt bI
  rw [Nat.testBit_eq_decide_div_mod_eq]
  have : n / 2 ^ (W - 1 - i) % 2 < 2 := Nat.mod_lt _ (by omega)
  generalize n / 2 ^ (W - 1 - i) % 2 = q at *
  by_cases h : q = 1
  · subst h; rfl
  · have : q = 0 := by omega
    subst this; rfl
theorem bitsL_getD (n W i : Nat) (h : i < W) : (bitsL n W).getD i 0 = bI (n.testBit (W - 1 - i)) := by
  rw [← bitAt_bit]
  simp [bitsL, List.getD_eq_getElem?_getD, h]
theorem bI_range (b : Bool) : 0 ≤ bI b ∧ bI b < 256 := by cases b <;> decide
theorem bI_49 (b : Bool) : bI b = 49 ↔ b = true := by cases b <;> decide
theorem bI_flip (b : Bool) : (97 - bI b) % 256 = bI (!b) := by cases b <;> decide
theorem byOf_size (W P : Nat) : (byOf W P).size = W + 1 := by
  unfold byOf
  rw [ByteArray.size_append, strOfNums_size, bitsL_length]
  show 1 + W = W + 1
  omega
theorem byOf_eq (W P : Nat) : byOf W P = strOfNums (49 :: bitsL P W) := by
  unfold byOf
  rw [show (49 :: bitsL P W) = [49] ++ bitsL P W from rfl, strOfNums_append]
  rfl
theorem byOf_bt (W P k : Nat) (hk : k ≤ W) : bt (byOf W P) (k : Int) = bI (decide (k = 0) || P.testBit (W - k)) := by
  rw [byOf_eq]
  cases k with
  | zero => rw [strOfNums_bt _ 0 (by simp) (by simp)]; rfl
  | succ k =>
    have h1 : (49 :: bitsL P W).getD (k + 1) 0 = bI (P.testBit (W - (k + 1))) := by
      rw [List.getD_cons_succ, bitsL_getD P W k (by omega), show W - 1 - k = W - (k + 1) by omega]
    rw [strOfNums_bt _ (k + 1) (by simp [bitsL_length]; omega) (by rw [h1]; exact bI_range _), h1]
    simp

theorem crcStep_bit (W P n : Nat) (b : UInt8) (hW : 1 ≤ W) (hn : n < 2 ^ W) (j : Nat) (hj : j < W) :
    (crcStep W P n b).testBit j = (((decide (1 ≤ j) && n.testBit (j - 1))) ^^ ((n.testBit (W - 1) ^^ (b == 49)) && P.testBit j)) := by
  have hh : decide (n / 2 ^ (W - 1) = 1) = n.testBit (W - 1) := by
    rw [Nat.testBit_eq_decide_div_mod_eq]
    have : n / 2 ^ (W - 1) < 2 := by
      obtain ⟨V, rfl⟩ : ∃ V, W = V + 1 := ⟨W - 1, by omega⟩
      rw [Nat.div_lt_iff_lt_mul (Nat.two_pow_pos _), show V + 1 - 1 = V by omega]
      rw [Nat.pow_succ] at hn
      omega
    rw [Nat.mod_eq_of_lt this]
  have h2 : ((2 * n) % 2 ^ W).testBit j = (decide (1 ≤ j) && n.testBit (j - 1)) := by
    rw [Nat.testBit_mod_two_pow, show 2 * n = 2 ^ 1 * n by omega, Nat.testBit_two_pow_mul]
    simp [hj]
  unfold crcStep
  rw [hh]
  cases n.testBit (W - 1) <;> cases (b == 49) <;> simp [Nat.testBit_xor, h2]

structure DivInv (W P : Nat) (s : ByteArray) (i : Nat) (l : List Int) : Prop where
  len : l.length = s.size + W
  far : ∀ j, i + W ≤ j → j < s.size + W → l.getD j 0 = if j < s.size then bI ((bytesOf s).getD j 0 == 49) else 48
  near : ∀ m, m < W → l.getD (i + m) 0 = bI ((decide (i + m < s.size) && ((bytesOf s).getD (i + m) 0 == 49)) ^^ (crcN W P (s.data.toList.take i)).testBit (W - 1 - m))

theorem bytesOf_getD (s : ByteArray) (i : Nat) (h : i < s.size) : (bytesOf s).getD i 0 = (s[i].toNat : Int) := by
  have h' : i < s.data.size := h
  simp [bytesOf, List.getD_eq_getElem?_getD, Array.getElem?_eq_getElem h']
  rfl
theorem bytesOf_49 (s : ByteArray) (i : Nat) (h : i < s.size) : ((bytesOf s).getD i 0 == 49) = (s[i] == 49) := by
  rw [bytesOf_getD s i h, Bool.eq_iff_iff, beq_iff_eq, beq_iff_eq, ← UInt8.toNat_inj]
  simp
  omega
theorem bytesOf_bI (s : ByteArray) (hb : bitsB s = true) (i : Nat) (h : i < s.size) : (bytesOf s).getD i 0 = bI (s[i] == 49) := by
  rw [bytesOf_getD s i h]
  have h1 : s[i] = 48 ∨ s[i] = 49 := by simpa [isBit] using bitsB_at hb i h
  rcases h1 with h1 | h1 <;> rw [h1] <;> rfl
theorem div_start (W P : Nat) (s : ByteArray) (hb : bitsB s = true) : DivInv W P s 0 (bytesOf s ++ List.replicate W 48) := by
  have hg : ∀ j, j < s.size + W → (bytesOf s ++ List.replicate W 48).getD j 0 = if j < s.size then bI ((bytesOf s).getD j 0 == 49) else 48 := by
    intro j hj
    by_cases h : j < s.size
    · rw [if_pos h, bytesOf_49 s j h, ← bytesOf_bI s hb j h]
      simp [List.getD_eq_getElem?_getD, List.getElem?_append_left (show j < (bytesOf s).length by rw [bytesOf_length]; exact h)]
    · rw [if_neg h]
      simp [List.getD_eq_getElem?_getD, List.getElem?_append_right (show (bytesOf s).length ≤ j by rw [bytesOf_length]; omega), bytesOf_length, show j - s.size < W by omega]
  refine ⟨by simp [bytesOf_length], fun j _ h => hg j h, fun m hm => ?_⟩
  rw [Nat.zero_add, hg m (by omega)]
  by_cases h : m < s.size
  · rw [if_pos h]; simp [h, crcN]
  · rw [if_neg h]; simp [h, crcN, bI]
theorem div_step (W P : Nat) (s : ByteArray) (hb : bitsB s = true) (hW : 1 ≤ W) (hP : P < 2 ^ W) (i : Nat) (hi : i < s.size) (l : List Int) (h : DivInv W P s i l) : DivInv W P s (i + 1) (divK (byOf W P) W i l) := by
  obtain ⟨hlen, hfar, hnear⟩ := h
  have hn := crcN_lt W P hP (s.data.toList.take i)
  have ht := take_snoc s i hi
  generalize hc : crcN W P (s.data.toList.take i) = n at *
  have hc' : crcN W P (s.data.toList.take (i + 1)) = crcStep W P n s[i] := by rw [ht, crcN_snoc, hc]
  have h0 := hnear 0 (by omega)
  rw [Nat.add_zero, bytesOf_49 s i hi] at h0
  simp only [hi, decide_true, Bool.true_and, Nat.sub_zero] at h0
  -- what was there, behind place i
  have hold : ∀ m, m < W → l.getD (i + 1 + m) 0 = bI ((decide (i + 1 + m < s.size) && ((bytesOf s).getD (i + 1 + m) 0 == 49)) ^^ (decide (1 ≤ W - 1 - m) && n.testBit (W - 1 - m - 1))) := by
    intro m hm
    by_cases e : m + 1 < W
    · have := hnear (m + 1) e
      rw [show i + (m + 1) = i + 1 + m by omega, show W - 1 - (m + 1) = W - 1 - m - 1 by omega] at this
      rw [this]
      simp [show 1 ≤ W - 1 - m by omega]
    · have := hfar (i + 1 + m) (by omega) (by omega)
      rw [this, show W - 1 - m = 0 by omega]
      by_cases h : i + 1 + m < s.size
      · rw [if_pos h]; simp [h]
      · rw [if_neg h]; simp [h, bI]
  have hnew : ∀ j, i < j → j ≤ i + W → (divK (byOf W P) W i l).getD j 0 = if (n.testBit (W - 1) ^^ (s[i] == 49)) && P.testBit (W - (j - i)) then (97 - l.getD j 0) % 256 else l.getD j 0 := by
    intro j h1 h2
    unfold divK
    by_cases hx : l.getD i 0 = 49
    · have ht2 : (n.testBit (W - 1) ^^ (s[i] == 49)) = true := by
        rw [h0, bI_49] at hx
        rw [Bool.xor_comm]; exact hx
      rw [if_pos hx, flipL_getD _ _ _ (W + 1) (by omega), ht2]
      simp only [byOf_bt W P (j - i) (by omega), bI_49]
      simp [show i ≤ j by omega, show j < i + (W + 1) by omega, show ¬ (j - i = 0) by omega]
    · have ht2 : (n.testBit (W - 1) ^^ (s[i] == 49)) = false := by
        rw [h0, bI_49] at hx
        rw [Bool.xor_comm]; simpa using hx
      rw [if_neg hx, ht2]
      simp
  refine ⟨by rw [divK_length]; exact hlen, fun j h1 h2 => ?_, fun m hm => ?_⟩
  · have hk : (divK (byOf W P) W i l).getD j 0 = l.getD j 0 := by
      unfold divK
      split
      · rw [flipL_getD _ _ _ (W + 1) (by omega), if_neg (by omega)]
      · rfl
    rw [hk]
    exact hfar j (by omega) h2
  · rw [hnew (i + 1 + m) (by omega) (by omega), hold m hm, hc', crcStep_bit W P n s[i] hW hn (W - 1 - m) (by omega), bI_flip, show W - (i + 1 + m - i) = W - 1 - m by omega]
    generalize (decide (i + 1 + m < s.size) && ((bytesOf s).getD (i + 1 + m) 0 == 49)) = p
    generalize (decide (1 ≤ W - 1 - m) && n.testBit (W - 1 - m - 1)) = r
    cases (n.testBit (W - 1) ^^ (s[i] == 49)) <;> cases P.testBit (W - 1 - m) <;> cases p <;> cases r <;> rfl
theorem div_all (W P : Nat) (s : ByteArray) (hb : bitsB s = true) (hW : 1 ≤ W) (hP : P < 2 ^ W) : ∀ i, i ≤ s.size → DivInv W P s i (divL (byOf W P) W (bytesOf s ++ List.replicate W 48) i)
  | 0, _ => div_start W P s hb
  | i + 1, h => div_step W P s hb hW hP i (by omega) _ (div_all W P s hb hW hP i (by omega))
theorem list_getD_ext (a b : List Int) (hl : a.length = b.length) (h : ∀ i, i < a.length → a.getD i 0 = b.getD i 0) : a = b := by
  apply List.ext_getElem hl
  intro i h1 h2
  have := h i h1
  simpa [List.getD_eq_getElem?_getD, h1, h2] using this
theorem div_end (W P : Nat) (s : ByteArray) (hb : bitsB s = true) (hW : 1 ≤ W) (hP : P < 2 ^ W) :
    (divL (byOf W P) W (bytesOf s ++ List.replicate W 48) s.size).drop s.size = bitsL (crcN W P s.data.toList) W := by
  obtain ⟨hlen, _, hnear⟩ := div_all W P s hb hW hP s.size (Nat.le_refl _)
  apply list_getD_ext
  · rw [List.length_drop, hlen, bitsL_length]; omega
  · intro m hm
    rw [List.length_drop, hlen] at hm
    have h1 := hnear m (by omega)
    rw [bitsL_getD _ _ _ (by omega)]
    rw [List.take_of_length_le (by simp)] at h1
    have h2 : ∀ (l : List Int), (l.drop s.size).getD m 0 = l.getD (s.size + m) 0 := fun l => by simp [List.getD_eq_getElem?_getD, List.getElem?_drop]
    rw [h2, h1, show decide (s.size + m < s.size) = false from decide_eq_false (by omega), Bool.false_and, Bool.false_xor]
/-- The number of a number's bits. -/
theorem bitsL_snoc (n W : Nat) : bitsL n (W + 1) = bitsL (n / 2) W ++ [48 + ((n % 2 : Nat) : Int)] := by
  apply list_getD_ext
  · simp [bitsL_length]
  · intro i hi
    rw [bitsL_length] at hi
    rw [bitsL_getD _ _ _ hi]
    by_cases h : i < W
    · have : ((bitsL (n / 2) W ++ [48 + ((n % 2 : Nat) : Int)]).getD i 0) = (bitsL (n / 2) W).getD i 0 := by
        simp [List.getD_eq_getElem?_getD, List.getElem?_append_left (show i < (bitsL (n / 2) W).length by rw [bitsL_length]; exact h)]
      rw [this, bitsL_getD _ _ _ h, Nat.testBit_div_two, show W + 1 - 1 - i = W - 1 - i + 1 by omega]
    · obtain rfl : i = W := by omega
      have : ((bitsL (n / 2) i ++ [48 + ((n % 2 : Nat) : Int)]).getD i 0) = 48 + ((n % 2 : Nat) : Int) := by
        simp [List.getD_eq_getElem?_getD, List.getElem?_append_right (show (bitsL (n / 2) i).length ≤ i by rw [bitsL_length]; omega), bitsL_length]
      rw [this, show i + 1 - 1 - i = 0 by omega, Nat.testBit_zero]
      rcases Nat.mod_two_eq_zero_or_one n with h | h <;> simp [h, bI]
theorem bitsL_bits (n W : Nat) : bitsB (strOfNums (bitsL n W)) = true := by
  unfold bitsB
  rw [strOfNums_data, List.all_eq_true]
  intro x hx
  obtain ⟨y, hy, rfl⟩ := List.mem_map.1 hx
  obtain ⟨i, hi, rfl⟩ := List.mem_map.1 hy
  rw [bitAt_bit]
  cases (n.testBit (W - 1 - i)) <;> decide
theorem bitsL_num : ∀ (W n : Nat), bitsNum (strOfNums (bitsL n W)).data.toList = n % 2 ^ W
  | 0, n => by simp [bitsL, strOfNums, bitsNum, Nat.mod_one]
  | W + 1, n => by
    have ih := bitsL_num W (n / 2)
    rw [strOfNums_data] at ih ⊢
    rw [bitsL_snoc, List.map_append, List.map_singleton, bitsNum_snoc, ih]
    have h1 : bitN (UInt8.ofNat (48 + ((n % 2 : Nat) : Int)).toNat) = n % 2 := by
      rcases Nat.mod_two_eq_zero_or_one n with h | h <;> rw [h] <;> rfl
    rw [h1, Nat.pow_succ, Nat.mul_comm (2 ^ W) 2, Nat.mod_mul]
    omega
end Go.Proofs.Ytbpjbnhhopohgaa.P
