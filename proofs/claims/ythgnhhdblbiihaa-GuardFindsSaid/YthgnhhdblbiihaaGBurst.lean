/- A check finds what is turned within a stretch as long as it is: linearity, an odd poly; the check of bits with their check behind them; no conditions beyond the widths. -/
import Derived.Test.YthgnhhdblbiihaaGCrcAll
import Derived.Test.YthgnhhdblbiihaaGRefAll
import Derived.Test.YthgnhhdblbiihaaGGuardLaws
import Derived.Test.YthgnhhdblbiihaaGGuardRef
namespace Go.Proofs.Ythgnhhdblbiihaa.P
open Go.RowKit Go.Proofs.YthgnhhdblbiihaaW.PrintWords Go.Proofs.YthgnhhdblbiihaaW.PrintLast Go.Proofs.YthgnhhdblbiihaaW.PrintMore
set_option linter.unusedVariables false
set_option linter.unusedSimpArgs false

/-- A check over bits from a number on. -/
def crcFrom (W P n : Nat) (l : List UInt8) : Nat := l.foldl (crcStep W P) n
theorem crcFrom_append (W P n : Nat) (l m : List UInt8) : crcFrom W P n (l ++ m) = crcFrom W P (crcFrom W P n l) m := by simp [crcFrom]
theorem crcN_append (W P : Nat) (l m : List UInt8) : crcN W P (l ++ m) = crcFrom W P (crcN W P l) m := by simp [crcN, crcFrom]
theorem crcFrom_lt (W P : Nat) (hP : P < 2 ^ W) (n : Nat) (hn : n < 2 ^ W) (l : List UInt8) : crcFrom W P n l < 2 ^ W := crcFold_lt W P hP l n hn
theorem bits_bytes (s : ByteArray) (hb : bitsB s = true) : ∀ b ∈ s.data.toList, isBit b = true := by
  unfold bitsB at hb
  rw [List.all_eq_true] at hb
  exact hb
theorem testBit_out (n W j : Nat) (hn : n < 2 ^ W) (hj : W ≤ j) : n.testBit j = false := Nat.testBit_lt_two_pow (Nat.lt_of_lt_of_le hn (Nat.pow_le_pow_right (by omega) hj))
/-- One step of two is a step of both. -/
theorem crcStep_xor (W P n m : Nat) (a b c : UInt8) (hW : 1 ≤ W) (hP : P < 2 ^ W) (hn : n < 2 ^ W) (hm : m < 2 ^ W) (hc : (c == 49) = ((a == 49) ^^ (b == 49))) :
    crcStep W P (n ^^^ m) c = crcStep W P n a ^^^ crcStep W P m b := by
  have hx : n ^^^ m < 2 ^ W := Nat.xor_lt_two_pow hn hm
  apply Nat.eq_of_testBit_eq
  intro j
  rw [Nat.testBit_xor]
  by_cases hj : j < W
  · rw [crcStep_bit W P _ c hW hx j hj, crcStep_bit W P n a hW hn j hj, crcStep_bit W P m b hW hm j hj, hc, Nat.testBit_xor, Nat.testBit_xor]
    generalize n.testBit (j - 1) = x1
    generalize m.testBit (j - 1) = x2
    generalize n.testBit (W - 1) = x3
    generalize m.testBit (W - 1) = x4
    cases decide (1 ≤ j) <;> cases x1 <;> cases x2 <;> cases x3 <;> cases x4 <;> cases (a == 49) <;> cases (b == 49) <;> cases P.testBit j <;> rfl
  · rw [testBit_out _ W j (crcStep_lt W P _ c hP) (by omega), testBit_out _ W j (crcStep_lt W P _ a hP) (by omega), testBit_out _ W j (crcStep_lt W P _ b hP) (by omega)]
    rfl
theorem crcFrom_xor (W P : Nat) (hW : 1 ≤ W) (hP : P < 2 ^ W) : ∀ (la lb lc : List UInt8) (n m : Nat), la.length = lb.length → lc.length = la.length → n < 2 ^ W → m < 2 ^ W →
    (∀ i (h1 : i < la.length) (h2 : i < lb.length) (h3 : i < lc.length), (lc[i] == 49) = ((la[i] == 49) ^^ (lb[i] == 49))) →
    crcFrom W P (n ^^^ m) lc = crcFrom W P n la ^^^ crcFrom W P m lb
  | [], lb, lc, n, m, hl, hl2, hn, hm, h => by
    obtain rfl : lb = [] := List.eq_nil_of_length_eq_zero hl.symm
    obtain rfl : lc = [] := List.eq_nil_of_length_eq_zero hl2
    rfl
  | a :: la, lb, lc, n, m, hl, hl2, hn, hm, h => by
    obtain ⟨b, lb, rfl⟩ : ∃ b l, lb = b :: l := by cases lb with | nil => simp at hl | cons b l => exact ⟨b, l, rfl⟩
    obtain ⟨c, lc, rfl⟩ : ∃ c l, lc = c :: l := by cases lc with | nil => simp at hl2 | cons c l => exact ⟨c, l, rfl⟩
    have h0 := h 0 (by simp) (by simp) (by simp)
    have ih := crcFrom_xor W P hW hP la lb lc (crcStep W P n a) (crcStep W P m b) (by simpa using hl) (by simpa using hl2) (crcStep_lt W P n a hP) (crcStep_lt W P m b hP) (fun i h1 h2 h3 => by
      have := h (i + 1) (by simp; omega) (by simp; omega) (by simp; omega)
      simpa using this)
    simp only [crcFrom, List.foldl_cons] at ih ⊢
    rw [crcStep_xor W P n m a b c hW hP hn hm (by simpa using h0), ih]
/-- An odd poly's step loses nothing. -/
theorem crcStep_inj (W P n m : Nat) (b : UInt8) (hW : 1 ≤ W) (hodd : P % 2 = 1) (hn : n < 2 ^ W) (hm : m < 2 ^ W) (h : crcStep W P n b = crcStep W P m b) : n = m := by
  have hb : ∀ j, j < W → (crcStep W P n b).testBit j = (crcStep W P m b).testBit j := fun j _ => by rw [h]
  have hp0 : P.testBit 0 = true := by rw [Nat.testBit_zero]; simpa using hodd
  have h0 := hb 0 (by omega)
  rw [crcStep_bit W P n b hW hn 0 (by omega), crcStep_bit W P m b hW hm 0 (by omega), hp0] at h0
  have htop : n.testBit (W - 1) = m.testBit (W - 1) := by
    revert h0
    generalize n.testBit (W - 1) = x
    generalize m.testBit (W - 1) = y
    generalize n.testBit (0 - 1) = x2
    generalize m.testBit (0 - 1) = y2
    cases x <;> cases y <;> cases x2 <;> cases y2 <;> cases (b == 49) <;> simp
  apply Nat.eq_of_testBit_eq
  intro j
  by_cases hj : j < W - 1
  · have h1 := hb (j + 1) (by omega)
    rw [crcStep_bit W P n b hW hn (j + 1) (by omega), crcStep_bit W P m b hW hm (j + 1) (by omega), htop] at h1
    revert h1
    rw [show j + 1 - 1 = j by omega]
    generalize n.testBit j = x
    generalize m.testBit j = y
    cases x <;> cases y <;> cases m.testBit (W - 1) <;> cases (b == 49) <;> cases P.testBit (j + 1) <;> simp
  · by_cases e : j = W - 1
    · rw [e]; exact htop
    · rw [testBit_out n W j hn (by omega), testBit_out m W j hm (by omega)]
theorem crcFrom_inj (W P : Nat) (hW : 1 ≤ W) (hP : P < 2 ^ W) (hodd : P % 2 = 1) : ∀ (l : List UInt8) (n m : Nat), n < 2 ^ W → m < 2 ^ W → crcFrom W P n l = crcFrom W P m l → n = m
  | [], _, _, _, _, h => h
  | b :: l, n, m, hn, hm, h => crcStep_inj W P n m b hW hodd hn hm (crcFrom_inj W P hW hP hodd l _ _ (crcStep_lt W P n b hP) (crcStep_lt W P m b hP) h)
theorem crcFrom_zero (W P : Nat) (l : List UInt8) (h : ∀ b ∈ l, (b == 49) = false) : crcFrom W P 0 l = 0 := by
  induction l with
  | nil => rfl
  | cons b l ih =>
    have hb := h b List.mem_cons_self
    have e : crcStep W P 0 b = 0 := by
      unfold crcStep
      rw [hb, Nat.zero_div]
      simp
    show crcFrom W P (crcStep W P 0 b) l = 0
    rw [e]
    exact ih fun x hx => h x (List.mem_cons_of_mem _ hx)
theorem crc_quiet (W P : Nat) (hW : 1 ≤ W) (hP : P < 2 ^ W) (hodd : P % 2 = 1) : ∀ (d : Nat) (l : List UInt8), l.length = d → ∀ j, j + d ≤ W → (∀ i, i < W - j → (crcFrom W P 0 l).testBit i = false) → ∀ b ∈ l, (b == 49) = false
  | 0, l, hl, _, _, _ => by
    obtain rfl := List.eq_nil_of_length_eq_zero hl
    intro b hb
    cases hb
  | d + 1, l, hl, j, hj, h => by
    obtain ⟨l, b, rfl⟩ : ∃ l' b, l = l' ++ [b] := ⟨l.dropLast, l.getLast (by intro e; simp [e] at hl), (List.dropLast_concat_getLast _).symm⟩
    have hl' : l.length = d := by simpa using hl
    have hr : crcFrom W P 0 l < 2 ^ W := crcFrom_lt W P hP 0 (Nat.two_pow_pos W) l
    have e : crcFrom W P 0 (l ++ [b]) = crcStep W P (crcFrom W P 0 l) b := by rw [crcFrom_append]; rfl
    rw [e] at h
    have hp0 : P.testBit 0 = true := by rw [Nat.testBit_zero]; simpa using hodd
    have ht : ((crcFrom W P 0 l).testBit (W - 1) ^^ (b == 49)) = false := by
      have := h 0 (by omega)
      rw [crcStep_bit W P _ b hW hr 0 (by omega), hp0] at this
      simpa using this
    have ih := crc_quiet W P hW hP hodd d l hl' (j + 1) (by omega) (fun i hi => by
      have := h (i + 1) (by omega)
      rw [crcStep_bit W P _ b hW hr (i + 1) (by omega), ht] at this
      simpa using this)
    intro x hx
    rcases List.mem_append.1 hx with hx | hx
    · exact ih x hx
    · obtain rfl : x = b := by simpa using hx
      rw [crcFrom_zero W P l ih, Nat.zero_testBit, Bool.false_xor] at ht
      exact ht
/-- A stretch no longer than the check: from one register to one: the bits are the same. -/
theorem crcFrom_stretch (W P : Nat) (hW : 1 ≤ W) (hP : P < 2 ^ W) (hodd : P % 2 = 1) (l m : List UInt8) (n : Nat) (hn : n < 2 ^ W) (hl : l.length = m.length) (hlen : l.length ≤ W) (h : crcFrom W P n l = crcFrom W P n m) :
    ∀ i (h1 : i < l.length) (h2 : i < m.length), (l[i] == 49) = (m[i] == 49) := by
  obtain ⟨c, hc⟩ : ∃ c, c = List.zipWith (fun a b : UInt8 => if ((a == 49) ^^ (b == 49)) then (49 : UInt8) else 48) l m := ⟨_, rfl⟩
  have hcl : c.length = l.length := by rw [hc, List.length_zipWith]; omega
  have hci : ∀ i (h1 : i < l.length) (h2 : i < m.length) (h3 : i < c.length), (c[i] == 49) = ((l[i] == 49) ^^ (m[i] == 49)) := by
    intro i h1 h2 h3
    subst hc
    rw [List.getElem_zipWith]
    cases ((l[i] == 49) ^^ (m[i] == 49)) <;> rfl
  have hx := crcFrom_xor W P hW hP l m c n n hl hcl hn hn hci
  rw [h, Nat.xor_self, Nat.xor_self] at hx
  have hq := crc_quiet W P hW hP hodd c.length c rfl 0 (by omega) (fun i _ => by rw [hx]; exact Nat.zero_testBit i)
  intro i h1 h2
  have h3 : i < c.length := by omega
  have := hci i h1 h2 h3
  rw [hq _ (List.getElem_mem h3)] at this
  revert this
  cases (l[i] == 49) <;> cases (m[i] == 49) <;> simp
theorem isBit_eq (a b : UInt8) (ha : isBit a = true) (hb : isBit b = true) (h : (a == 49) = (b == 49)) : a = b := by
  have h1 : a = 48 ∨ a = 49 := by simpa [isBit] using ha
  have h2 : b = 48 ∨ b = 49 := by simpa [isBit] using hb
  rcases h1 with rfl | rfl <;> rcases h2 with rfl | rfl <;> first | rfl | (exact absurd h (by decide))
/-- The checks of two texts that are unlike in a stretch alone are the same just if the texts are. -/
theorem crc_stretch (W P : Nat) (hW : 1 ≤ W) (hP : P < 2 ^ W) (hodd : P % 2 = 1) (a x y c : List UInt8) (hx : ∀ b ∈ x, isBit b = true) (hy : ∀ b ∈ y, isBit b = true) (hl : x.length = y.length) (hlen : x.length ≤ W) :
    crcN W P (a ++ x ++ c) = crcN W P (a ++ y ++ c) ↔ x = y := by
  constructor
  · intro h
    rw [crcN_append, crcN_append, crcN_append, crcN_append] at h
    have hn := crcN_lt W P hP a
    have h1 := crcFrom_inj W P hW hP hodd c _ _ (crcFrom_lt W P hP _ hn x) (crcFrom_lt W P hP _ hn y) h
    have h2 := crcFrom_stretch W P hW hP hodd x y _ hn hl hlen h1
    apply List.ext_getElem hl
    intro i h3 h4
    exact isBit_eq _ _ (hx _ (List.getElem_mem h3)) (hy _ (List.getElem_mem h4)) (h2 i h3 h4)
  · rintro rfl; rfl
def byteL (xs : List Int) : List UInt8 := xs.map fun n => UInt8.ofNat n.toNat
theorem crc_own (W P n : Nat) (hW : 1 ≤ W) (hP : P < 2 ^ W) (hn : n < 2 ^ W) : ∀ j, j ≤ W → crcFrom W P n (byteL ((bitsL n W).take j)) = (2 ^ j * n) % 2 ^ W
  | 0, _ => by simp [byteL, crcFrom, Nat.mod_eq_of_lt hn]
  | j + 1, hj => by
    have ih := crc_own W P n hW hP hn j (by omega)
    rw [bitsL_take n W j (by omega), byteL, List.map_append, crcFrom_append]
    rw [byteL] at ih
    rw [ih]
    have hm : (2 ^ j * n) % 2 ^ W < 2 ^ W := Nat.mod_lt _ (Nat.two_pow_pos W)
    have htop : ((2 ^ j * n) % 2 ^ W).testBit (W - 1) = n.testBit (W - 1 - j) := by
      rw [Nat.testBit_mod_two_pow, Nat.testBit_two_pow_mul]
      simp [show W - 1 < W by omega, show j ≤ W - 1 by omega]
    have hb : (UInt8.ofNat (bitAt n W j).toNat == 49) = n.testBit (W - 1 - j) := by
      rw [bitAt_bit]
      cases n.testBit (W - 1 - j) <;> decide
    show crcStep W P _ _ = _
    apply Nat.eq_of_testBit_eq
    intro i
    by_cases hi : i < W
    · rw [crcStep_bit W P _ _ hW hm i hi, htop, hb, Bool.xor_self, Bool.false_and, Bool.xor_false, Nat.testBit_mod_two_pow, Nat.testBit_two_pow_mul, Nat.testBit_mod_two_pow, Nat.testBit_two_pow_mul]
      by_cases h1 : 1 ≤ i
      · rw [show i - (j + 1) = i - 1 - j by omega]
        simp [h1, hi, show i - 1 < W by omega, show (j ≤ i - 1) = (j + 1 ≤ i) from propext (by omega)]
      · simp [h1, show ¬ (j + 1 ≤ i) by omega]
    · rw [testBit_out _ W i (crcStep_lt W P _ _ hP) (by omega), testBit_out _ W i (Nat.mod_lt _ (Nat.two_pow_pos W)) (by omega)]

/-- The bits of an identifier and bytes, with bytes behind them. -/
theorem bits8_append (id : Nat) (l m : List UInt8) : (bits8 id (l ++ m)).data.toList = (bits8 id l).data.toList ++ (m.flatMap fun x => (oct x.toNat).data.toList) := by
  induction m generalizing l with
  | nil => simp
  | cons x m ih =>
    rw [show l ++ x :: m = (l ++ [x]) ++ m from by simp, ih, bits8_snoc, ba_append, List.append_assoc, List.flatMap_cons]
/-- Bytes of which the last one is the check of those ahead of it have no check. -/
theorem chk_none (id : Nat) (s : ByteArray) (x : UInt8) (h : chk id s = x.toNat) : crcN 8 29 (bits8 id (s.data.toList ++ [x])).data.toList = 0 := by
  rw [bits8_snoc, ba_append, crcN_append]
  have h0 : crcN 8 29 (bits8 id s.data.toList).data.toList = x.toNat := h
  rw [h0]
  have hx : x.toNat < 2 ^ 8 := x.toNat_lt
  have := crc_own 8 29 x.toNat (by omega) (by decide) hx 8 (Nat.le_refl _)
  rw [List.take_of_length_le (by rw [bitsL_length]; omega), byteL] at this
  unfold oct
  rw [strOfNums_data, this]
  exact Nat.mul_mod_right _ _
/-- Bit j of bytes. -/
def bitOf (l : List UInt8) (j : Nat) : Bool := ((l.getD (j / 8) 0).toNat).testBit (7 - j % 8)
theorem oct_list (x : UInt8) : (oct x.toNat).data.toList = (List.range 8).map fun i => if (x.toNat).testBit (7 - i) then (49 : UInt8) else 48 := by
  unfold oct bitsL
  rw [strOfNums_data, List.map_map]
  apply List.map_congr_left
  intro i hi
  rw [List.mem_range] at hi
  dsimp only [Function.comp]
  rw [bitAt_bit, show 8 - 1 - i = 7 - i from by omega]
  cases (x.toNat).testBit (7 - i) <;> rfl
def bitsOfL (l : List UInt8) : List UInt8 := (List.range (8 * l.length)).map fun j => if bitOf l j then (49 : UInt8) else 48
theorem flat_bits : ∀ l : List UInt8, (l.flatMap fun x => (oct x.toNat).data.toList) = bitsOfL l
  | [] => rfl
  | x :: l => by
    rw [List.flatMap_cons, flat_bits l, oct_list]
    unfold bitsOfL
    rw [show 8 * (x :: l).length = 8 + 8 * l.length from by rw [List.length_cons]; omega, List.range_add, List.map_append, List.map_map]
    congr 1
    apply List.map_congr_left
    intro j _
    dsimp only [Function.comp]
    have : bitOf (x :: l) (8 + j) = bitOf l j := by
      unfold bitOf
      rw [show (8 + j) / 8 = j / 8 + 1 from by omega, show (8 + j) % 8 = j % 8 from by omega, List.getD_cons_succ]
    rw [this]
theorem bitsOfL_length (l : List UInt8) : (bitsOfL l).length = 8 * l.length := by simp [bitsOfL]
theorem bitsOfL_bit (l : List UInt8) : ∀ b ∈ bitsOfL l, isBit b = true := by
  intro b hb
  unfold bitsOfL at hb
  obtain ⟨j, _, rfl⟩ := List.mem_map.1 hb
  split <;> rfl
/-- Bytes that are unlike in bits of a stretch of eight alone, each with the check at its end, are the same bits. -/
theorem burst (id : Nat) (l m : List UInt8) (hl : l.length = m.length) (a : Nat) (ha : a + 8 ≤ 8 * l.length)
    (hu : ∀ j, j < 8 * l.length → (j < a ∨ a + 8 ≤ j) → bitOf l j = bitOf m j)
    (h1 : crcN 8 29 (bits8 id l).data.toList = 0) (h2 : crcN 8 29 (bits8 id m).data.toList = 0) : bitsOfL l = bitsOfL m := by
  have e1 := bits8_append id [] l
  have e2 := bits8_append id [] m
  rw [List.nil_append, flat_bits] at e1 e2
  rw [e1] at h1
  rw [e2] at h2
  have L1 := bitsOfL_length l
  have L2 := bitsOfL_length m
  have s1 : bitsOfL l = (bitsOfL l).take a ++ ((bitsOfL l).drop a).take 8 ++ (bitsOfL l).drop (a + 8) := by
    rw [List.append_assoc, ← List.drop_drop, List.take_append_drop, List.take_append_drop]
  have s2 : bitsOfL m = (bitsOfL m).take a ++ ((bitsOfL m).drop a).take 8 ++ (bitsOfL m).drop (a + 8) := by
    rw [List.append_assoc, ← List.drop_drop, List.take_append_drop, List.take_append_drop]
  have q1 : (bitsOfL l).take a = (bitsOfL m).take a := by
    apply List.ext_getElem (by rw [List.length_take, List.length_take]; omega)
    intro i g1 g2
    rw [List.length_take] at g1
    rw [List.getElem_take, List.getElem_take]
    simp only [bitsOfL, List.getElem_map, List.getElem_range]
    rw [hu i (by omega) (.inl (by omega))]
  have q3 : (bitsOfL l).drop (a + 8) = (bitsOfL m).drop (a + 8) := by
    apply List.ext_getElem (by rw [List.length_drop, List.length_drop]; omega)
    intro i g1 g2
    rw [List.length_drop] at g1
    rw [List.getElem_drop, List.getElem_drop]
    simp only [bitsOfL, List.getElem_map, List.getElem_range]
    rw [hu (a + 8 + i) (by omega) (.inr (by omega))]
  have hx := crc_stretch 8 29 (by omega) (by decide) (by decide) ((bits8 id []).data.toList ++ (bitsOfL l).take a) (((bitsOfL l).drop a).take 8) (((bitsOfL m).drop a).take 8) ((bitsOfL l).drop (a + 8))
    (fun b hb => bitsOfL_bit l b (List.mem_of_mem_drop (List.mem_of_mem_take hb))) (fun b hb => bitsOfL_bit m b (List.mem_of_mem_drop (List.mem_of_mem_take hb)))
    (by rw [List.length_take, List.length_take, List.length_drop, List.length_drop]; omega) (by rw [List.length_take]; omega)
  rw [s1] at h1
  rw [s2, ← q1, ← q3] at h2
  have hxy := hx.1 (by simp only [List.append_assoc] at h1 h2 ⊢; rw [h1, h2])
  rw [s1, s2, hxy, q1, q3]
theorem bitOf_eq (l m : List UInt8) (h : bitsOfL l = bitsOfL m) (j : Nat) (hj : j < 8 * l.length) (hl : l.length = m.length) : bitOf l j = bitOf m j := by
  have := congrArg (fun x : List UInt8 => x[j]?) h
  simp only [bitsOfL, List.getElem?_map, List.getElem?_range hj, ← hl, Option.map_some, Option.some.injEq] at this
  revert this
  cases bitOf l j <;> cases bitOf m j <;> simp
/-- The byte that has bit k, counted from the highest one. -/
def maskB (k : Nat) : UInt8 := UInt8.ofNat (128 / 2 ^ k)
theorem mask_bit (x : UInt8) (k r : Nat) (hk : k < 8) (hr : r < 8) : ((x ^^^ maskB k).toNat).testBit (7 - r) = ((x.toNat).testBit (7 - r) ^^ decide (r = k)) := by
  have e : (maskB k).toNat = 2 ^ (7 - k) := by
    obtain rfl | rfl | rfl | rfl | rfl | rfl | rfl | rfl : k = 0 ∨ k = 1 ∨ k = 2 ∨ k = 3 ∨ k = 4 ∨ k = 5 ∨ k = 6 ∨ k = 7 := by omega
    all_goals rfl
  rw [UInt8.toNat_xor, Nat.testBit_xor, e, Nat.testBit_two_pow]
  congr 1
  rw [decide_eq_decide]
  omega
def turnL (a t i : Nat) (l : List UInt8) : List UInt8 := if t.testBit (7 - i) then l.set ((a + i) / 8) (l.getD ((a + i) / 8) 0 ^^^ maskB ((a + i) % 8)) else l
theorem turnL_length (a t i : Nat) (l : List UInt8) : (turnL a t i l).length = l.length := by unfold turnL; split <;> simp
def Turned (a t i : Nat) (s l : List UInt8) : Prop := l.length = s.length ∧ ∀ j, bitOf l j = (bitOf s j ^^ (decide (a ≤ j ∧ j < a + i) && t.testBit (7 - (j - a))))
theorem Turned.zero (a t : Nat) (s : List UInt8) : Turned a t 0 s s := by
  refine ⟨rfl, fun j => ?_⟩
  rw [decide_eq_false (by omega)]
  simp
theorem Turned.step (a t i : Nat) (s l : List UInt8) (hi : i < 8) (ha : a + 8 ≤ 8 * s.length) (h : Turned a t i s l) : Turned a t (i + 1) s (turnL a t i l) := by
  refine ⟨(turnL_length a t i l).trans h.1, fun j => ?_⟩
  have hj := h.2 j
  have hl := h.1
  unfold turnL
  by_cases hb : t.testBit (7 - i) = true
  · rw [if_pos hb]
    by_cases hm : j / 8 = (a + i) / 8
    · have e : bitOf (l.set ((a + i) / 8) (l.getD ((a + i) / 8) 0 ^^^ maskB ((a + i) % 8))) j = (bitOf l j ^^ decide (j % 8 = (a + i) % 8)) := by
        unfold bitOf
        rw [hm]
        have hlt : (a + i) / 8 < l.length := by omega
        rw [show (l.set ((a + i) / 8) (l.getD ((a + i) / 8) 0 ^^^ maskB ((a + i) % 8))).getD ((a + i) / 8) 0 = (l.getD ((a + i) / 8) 0 ^^^ maskB ((a + i) % 8)) from by simp [List.getD_eq_getElem?_getD, hlt]]
        exact mask_bit _ _ _ (by omega) (by omega)
      rw [e, hj]
      by_cases hji : j = a + i
      · subst hji
        rw [decide_eq_true (rfl : (a + i) % 8 = (a + i) % 8), decide_eq_false (by omega : ¬ (a ≤ a + i ∧ a + i < a + i)), decide_eq_true (by omega : a ≤ a + i ∧ a + i < a + (i + 1)), show a + i - a = i from by omega, hb]
        simp
      · rw [decide_eq_false (by omega : ¬ j % 8 = (a + i) % 8), show (decide (a ≤ j ∧ j < a + (i + 1))) = decide (a ≤ j ∧ j < a + i) from by rw [decide_eq_decide]; omega]
        simp
    · have e : bitOf (l.set ((a + i) / 8) (l.getD ((a + i) / 8) 0 ^^^ maskB ((a + i) % 8))) j = bitOf l j := by
        unfold bitOf
        rw [show (l.set ((a + i) / 8) (l.getD ((a + i) / 8) 0 ^^^ maskB ((a + i) % 8))).getD (j / 8) 0 = l.getD (j / 8) 0 from by
          simp only [List.getD_eq_getElem?_getD]
          rw [List.getElem?_set_ne (fun q => hm q.symm)]]
      have hji : j ≠ a + i := fun q => hm (by rw [q])
      rw [e, hj, show (decide (a ≤ j ∧ j < a + (i + 1))) = decide (a ≤ j ∧ j < a + i) from by rw [decide_eq_decide]; omega]
  · rw [if_neg hb, hj]
    have hb2 : t.testBit (7 - i) = false := by simpa using hb
    by_cases hji : j = a + i
    · subst hji
      rw [decide_eq_false (by omega : ¬ (a ≤ a + i ∧ a + i < a + i)), show a + i - a = i from by omega, hb2]
      simp
    · rw [show (decide (a ≤ j ∧ j < a + (i + 1))) = decide (a ≤ j ∧ j < a + i) from by rw [decide_eq_decide]; omega]
theorem some_bit (t : Nat) (h1 : 1 ≤ t) (h2 : t ≤ 255) : ∃ i, i < 8 ∧ t.testBit (7 - i) = true := by
  have h : ∀ t : Fin 256, 1 ≤ t.val → ∃ i : Fin 8, t.val.testBit (7 - i.val) = true := by decide +kernel
  obtain ⟨i, hi⟩ := h ⟨t, by omega⟩ h1
  exact ⟨i.val, i.isLt, hi⟩
/-- Sealed data of which bits within eight in a row are turned can't be opened. -/
theorem turned_shut (id c : Int) (m s : ByteArray) (hs : sealP id c m = (s, 0)) (a t : Nat) (ha : a + 8 ≤ 8 * s.size) (h1 : 1 ≤ t) (h2 : t ≤ 255) (l : List UInt8) (hl : Turned a t 8 s.data.toList l) :
    openP id ⟨l.toArray⟩ = (0, ⟨#[]⟩, 3) := by
  have hv : 0 ≤ id ∧ id ≤ 255 := by
    unfold sealP at hs
    split at hs
    · rename_i q; exact q.2.2.2
    · have := congrArg Prod.snd hs
      exact absurd (show (2 : Int) = 0 from this) (by decide)
  have hsl := ba_length s
  have hd : (⟨l.toArray⟩ : ByteArray).data.toList = l := rfl
  have hz : (⟨l.toArray⟩ : ByteArray).size = s.size := by rw [← ba_length, hd, hl.1, hsl]
  have hs0 : crcN 8 29 (bits8 id.toNat s.data.toList).data.toList = 0 := by
    unfold sealP at hs
    split at hs
    · rename_i q
      have e := congrArg Prod.fst hs
      dsimp only at e
      rw [← e, ba_append, byte1_list]
      refine chk_none _ _ _ ?_
      rw [UInt8.toNat_ofNat', Nat.mod_eq_of_lt (show _ < 2 ^ 8 from chk_lt _ _)]
    · have := congrArg Prod.snd hs
      exact absurd (show (2 : Int) = 0 from this) (by decide)
  unfold openP
  rw [if_pos hv]
  by_cases ho : 2 ≤ (⟨l.toArray⟩ : ByteArray).size ∧ sealP id (bt ⟨l.toArray⟩ 0) ((⟨l.toArray⟩ : ByteArray).extract 1 ((⟨l.toArray⟩ : ByteArray).size - 1)) = (⟨l.toArray⟩, 0)
  · exfalso
    obtain ⟨g1, g2, g3, g4⟩ := (open_iff id _ hv).1 ho
    rw [hz] at g1 g4
    have hlast : s.size - 1 < l.length := by rw [hl.1, hsl]; omega
    have hsplit : l = (((⟨l.toArray⟩ : ByteArray).extract 0 (s.size - 1)).data.toList) ++ [l[s.size - 1]] := by
      rw [ba_extract, hd, List.drop_zero, Nat.sub_zero]
      have := List.take_succ_eq_append_getElem hlast
      rw [← this, List.take_of_length_le (by rw [hl.1, hsl]; omega)]
    have hq := bt_of_list ⟨l.toArray⟩ (s.size - 1) l[s.size - 1] (by rw [hd]; exact List.getElem?_eq_getElem hlast)
    have ht0 : crcN 8 29 (bits8 id.toNat l).data.toList = 0 := by
      rw [hsplit]
      refine chk_none _ _ _ ?_
      have := g4.trans hq
      omega
    have hbb := burst id.toNat s.data.toList l hl.1.symm a (by rw [hsl]; exact ha) (fun j _ hj => by
      rw [hl.2 j, decide_eq_false (by omega)]
      simp) hs0 ht0
    obtain ⟨i, hi, hti⟩ := some_bit t h1 h2
    have hbe := bitOf_eq _ _ hbb (a + i) (by rw [hsl]; omega) hl.1.symm
    rw [hl.2 (a + i), decide_eq_true (by omega : a ≤ a + i ∧ a + i < a + 8), show a + i - a = i from by omega, hti] at hbe
    simp at hbe
  · rw [if_neg ho]
end Go.Proofs.Ythgnhhdblbiihaa.P
