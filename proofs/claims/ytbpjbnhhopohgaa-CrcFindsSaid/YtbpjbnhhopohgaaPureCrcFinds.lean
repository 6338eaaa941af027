/- CrcFinds over plain numbers and texts: bits that are turned within a stretch as long as the check have another check, if the poly is odd; no conditions. -/
import Derived.Test.YtbpjbnhhopohgaaPsignalboxlaw07CrcFinds
import Derived.Test.YtbpjbnhhopohgaaGCrcLaws
namespace Go.Proofs.Ytbpjbnhhopohgaa.Pure
open Go.RowKit Go.Proofs.Ytbpjbnhhopohgaa.P Go.Proofs.YtbpjbnhhopohgaaW.PrintWords Go.Proofs.YtbpjbnhhopohgaaW.PrintLast Go.Proofs.YtbpjbnhhopohgaaW.PrintMore

/-- An odd poly's step loses nothing. -/
theorem crcStep_inj (W P n m : Nat) (b : UInt8) (hW : 1 ≤ W) (hodd : P % 2 = 1) (hn : n < 2 ^ W) (hm : m < 2 ^ W) (h : crcStep W P n b = crcStep W P m b) : n = m := by
  have hb : ∀ j, j < W → (crcStep W P n b).testBit j = (crcStep W P m b).testBit j := fun j _ => by rw [h]
  have hp0 : P.testBit 0 = true := by rw [Nat.testBit_zero]; simpa using hodd
  have h0 := hb 0 (by omega)
  rw [crcStep_bit W P n b hW hn 0 (by omega), crcStep_bit W P m b hW hm 0 (by omega), hp0] at h0
  have htop : n.testBit (W - 1) = m.testBit (W - 1) := by
    revert h0
    generalize n.testBit (W - 1) = x
    generalize m.testBit (W - 1) = y
    generalize n.testBit (0 - 1) = x2
    generalize m.testBit (0 - 1) = y2
    cases x <;> cases y <;> cases x2 <;> cases y2 <;> cases (b == 49) <;> simp
  apply Nat.eq_of_testBit_eq
  intro j
  by_cases hj : j < W - 1
  · have h1 := hb (j + 1) (by omega)
    rw [crcStep_bit W P n b hW hn (j + 1) (by omega), crcStep_bit W P m b hW hm (j + 1) (by omega), htop] at h1
    revert h1
    rw [show j + 1 - 1 = j by omega]
    generalize n.testBit j = x
    generalize m.testBit j = y
    cases x <;> cases y <;> cases m.testBit (W - 1) <;> cases (b == 49) <;> cases P.testBit (j + 1) <;> simp
  · by_cases e : j = W - 1
    · rw [e]; exact htop
    · rw [testBit_out n W j hn (by omega), testBit_out m W j hm (by omega)]
theorem crcFrom_inj (W P : Nat) (hW : 1 ≤ W) (hP : P < 2 ^ W) (hodd : P % 2 = 1) : ∀ (l : List UInt8) (n m : Nat), n < 2 ^ W → m < 2 ^ W → crcFrom W P n l = crcFrom W P m l → n = m
  | [], _, _, _, _, h => h
  | b :: l, n, m, hn, hm, h => crcStep_inj W P n m b hW hodd hn hm (crcFrom_inj W P hW hP hodd l _ _ (crcStep_lt W P n b hP) (crcStep_lt W P m b hP) h)
theorem crcFrom_zero (W P : Nat) (l : List UInt8) (h : ∀ b ∈ l, (b == 49) = false) : crcFrom W P 0 l = 0 := by
  induction l with
  | nil => rfl
  | cons b l ih =>
    have hb := h b List.mem_cons_self
    have e : crcStep W P 0 b = 0 := by
      unfold crcStep
      rw [hb, Nat.zero_div]
      simp
    show crcFrom W P (crcStep W P 0 b) l = 0
    rw [e]
    exact ih fun x hx => h x (List.mem_cons_of_mem _ hx)
theorem crc_quiet (W P : Nat) (hW : 1 ≤ W) (hP : P < 2 ^ W) (hodd : P % 2 = 1) : ∀ (d : Nat) (l : List UInt8), l.length = d → ∀ j, j + d ≤ W → (∀ i, i < W - j → (crcFrom W P 0 l).testBit i = false) → ∀ b ∈ l, (b == 49) = false
  | 0, l, hl, _, _, _ => by
    obtain rfl := List.eq_nil_of_length_eq_zero hl
    intro b hb
    cases hb
  | d + 1, l, hl, j, hj, h => by
    obtain ⟨l, b, rfl⟩ : ∃ l' b, l = l' ++ [b] := ⟨l.dropLast, l.getLast (by intro e; simp [e] at hl), (List.dropLast_concat_getLast _).symm⟩
    have hl' : l.length = d := by simpa using hl
    have hr : crcFrom W P 0 l < 2 ^ W := crcFrom_lt W P hP 0 (Nat.two_pow_pos W) l
    have e : crcFrom W P 0 (l ++ [b]) = crcStep W P (crcFrom W P 0 l) b := by rw [crcFrom_append]; rfl
    rw [e] at h
    have hp0 : P.testBit 0 = true := by rw [Nat.testBit_zero]; simpa using hodd
    have ht : ((crcFrom W P 0 l).testBit (W - 1) ^^ (b == 49)) = false := by
      have := h 0 (by omega)
      rw [crcStep_bit W P _ b hW hr 0 (by omega), hp0] at this
      simpa using this
    have ih := crc_quiet W P hW hP hodd d l hl' (j + 1) (by omega) (fun i hi => by
      have := h (i + 1) (by omega)
      rw [crcStep_bit W P _ b hW hr (i + 1) (by omega), ht] at this
      simpa using this)
    intro x hx
    rcases List.mem_append.1 hx with hx | hx
    · exact ih x hx
    · obtain rfl : x = b := by simpa using hx
      rw [crcFrom_zero W P l ih, Nat.zero_testBit, Bool.false_xor] at ht
      exact ht
/-- A stretch no longer than the check: from one register to one: the bits are the same. -/
theorem crcFrom_stretch (W P : Nat) (hW : 1 ≤ W) (hP : P < 2 ^ W) (hodd : P % 2 = 1) (l m : List UInt8) (n : Nat) (hn : n < 2 ^ W) (hl : l.length = m.length) (hlen : l.length ≤ W) (h : crcFrom W P n l = crcFrom W P n m) :
    ∀ i (h1 : i < l.length) (h2 : i < m.length), (l[i] == 49) = (m[i] == 49) := by
  obtain ⟨c, hc⟩ : ∃ c, c = List.zipWith (fun a b : UInt8 => if ((a == 49) ^^ (b == 49)) then (49 : UInt8) else 48) l m := ⟨_, rfl⟩
  have hcl : c.length = l.length := by rw [hc, List.length_zipWith]; omega
  have hci : ∀ i (h1 : i < l.length) (h2 : i < m.length) (h3 : i < c.length), (c[i] == 49) = ((l[i] == 49) ^^ (m[i] == 49)) := by
    intro i h1 h2 h3
    subst hc
    rw [List.getElem_zipWith]
    cases ((l[i] == 49) ^^ (m[i] == 49)) <;> rfl
  have hx := crcFrom_xor W P hW hP l m c n n hl hcl hn hn hci
  rw [h, Nat.xor_self, Nat.xor_self] at hx
  have hq := crc_quiet W P hW hP hodd c.length c rfl 0 (by omega) (fun i _ => by rw [hx]; exact Nat.zero_testBit i)
  intro i h1 h2
  have h3 : i < c.length := by omega
  have := hci i h1 h2 h3
  rw [hq _ (List.getElem_mem h3)] at this
  revert this
  cases (l[i] == 49) <;> cases (m[i] == 49) <;> simp
theorem isBit_eq (a b : UInt8) (ha : isBit a = true) (hb : isBit b = true) (h : (a == 49) = (b == 49)) : a = b := by
  have h1 : a = 48 ∨ a = 49 := by simpa [isBit] using ha
  have h2 : b = 48 ∨ b = 49 := by simpa [isBit] using hb
  rcases h1 with rfl | rfl <;> rcases h2 with rfl | rfl <;> first | rfl | (exact absurd h (by decide))
/-- The checks of two texts that are unlike in a stretch alone are the same just if the texts are. -/
theorem crc_stretch (W P : Nat) (hW : 1 ≤ W) (hP : P < 2 ^ W) (hodd : P % 2 = 1) (a x y c : List UInt8) (hx : ∀ b ∈ x, isBit b = true) (hy : ∀ b ∈ y, isBit b = true) (hl : x.length = y.length) (hlen : x.length ≤ W) :
    crcN W P (a ++ x ++ c) = crcN W P (a ++ y ++ c) ↔ x = y := by
  constructor
  · intro h
    rw [crcN_append, crcN_append, crcN_append, crcN_append] at h
    have hn := crcN_lt W P hP a
    have h1 := crcFrom_inj W P hW hP hodd c _ _ (crcFrom_lt W P hP _ hn x) (crcFrom_lt W P hP _ hn y) h
    have h2 := crcFrom_stretch W P hW hP hodd x y _ hn hl hlen h1
    apply List.ext_getElem hl
    intro i h3 h4
    exact isBit_eq _ _ (hx _ (List.getElem_mem h3)) (hy _ (List.getElem_mem h4)) (h2 i h3 h4)
  · rintro rfl; rfl
theorem extract_toList (s : ByteArray) (i j : Nat) : (s.extract i j).data.toList = (s.data.toList.drop i).take (j - i) := by
  rw [ByteArray.data_extract, Array.toList_extract, List.extract_eq_take_drop]
theorem toList_eq (s t : ByteArray) : (s.toList = t.toList) ↔ s.data.toList = t.data.toList := by
  rw [ByteArray.toList_eq, ByteArray.toList_eq]
theorem parts (s : ByteArray) (i n : Nat) (h : i + n ≤ s.size) : s.data.toList = (s.extract 0 i).data.toList ++ (s.extract i (i + n)).data.toList ++ (s.extract (i + n) s.size).data.toList := by
  rw [extract_toList, extract_toList, extract_toList]
  have h1 : s.data.toList.length = s.size := by simp
  rw [List.drop_zero, Nat.sub_zero, show i + n - i = n by omega, List.take_of_length_le (l := s.data.toList.drop (i + n)) (by rw [List.length_drop]; omega), List.append_assoc, ← List.drop_drop, List.take_append_drop, List.take_append_drop]
theorem bitsB_append2 (a b : ByteArray) (ha : bitsB a = true) (hb : bitsB b = true) : bitsB (a ++ b) = true := by
  unfold bitsB at *
  rw [ByteArray.data_append, Array.toList_append, List.all_append, ha, hb]
  rfl
theorem CrcFinds : signalboxlaw07_CrcFinds.Pure := by
  intro s u at_ a1 a2 hs hu ha hw hp
  refine ⟨u.size + 1000, ?_⟩
  have hj : ∀ k, signalboxlaw07_CrcFinds.j0 (k + 1) s u at_ a1 a2 true = some true := fun k => by simp [signalboxlaw07_CrcFinds.j0, alive07]
  unfold signalboxlaw07_CrcFinds.f
  by_cases h : (s.size : Int) > 600
  · rw [if_pos h]; exact hj _
  · rw [if_neg h, ref06_right_f s (by omega) _ (by omega)]
    simp only [Option.bind_some]
    cases hbs : bitsB s with
    | false => simp only [Bool.false_eq_true, if_false]; exact hj _
    | true =>
      simp only [if_true]
      rw [ref06_right_f u (by omega) _ (by omega)]
      simp only [Option.bind_some]
      cases hbu : bitsB u with
      | false => simp only [Bool.false_eq_true, if_false]; exact hj _
      | true =>
        simp only [if_true]
        by_cases h1 : at_ < 0
        · rw [if_pos h1]; exact hj _
        · rw [if_neg h1]
          by_cases h2 : (u.size : Int) > s.size
          · rw [if_pos h2]; exact hj _
          · rw [if_neg h2, w64_small ((s.size : Int) - u.size) (by omega) (by omega)]
            by_cases h3 : at_ > (s.size : Int) - u.size
            · rw [if_pos h3]; exact hj _
            · rw [if_neg h3, ref07_right_f _ _ _ (by omega)]
              simp only [Option.bind_some]
              cases hok : crcOk a1 a2 with
              | false => simp only [Bool.false_eq_true, if_false]; exact hj _
              | true =>
                simp only [if_true]
                obtain ⟨W, P, rfl, rfl, hW, hW2, hP⟩ := (crcOk_iff a1 a2).1 hok
                rw [Int.tmod_eq_emod_of_nonneg (by omega)]
                by_cases h4 : (P : Int) % 2 = 0
                · rw [if_pos h4]; exact hj _
                · rw [if_neg h4]
                  by_cases h5 : (u.size : Int) > (W : Int)
                  · rw [decide_eq_true h5]; exact hj _
                  · rw [decide_eq_false h5]
                    obtain ⟨i, rfl⟩ := Int.eq_ofNat_of_zero_le (show 0 ≤ at_ by omega)
                    have hodd : P % 2 = 1 := by omega
                    have hin : i + u.size ≤ s.size := by omega
                    have hsum : wrap64 ((i : Int) + (u.size : Int)) = ((i + u.size : Nat) : Int) := by rw [w64_small _ (by omega) (by omega)]; omega
                    have hms : (s.extract i (i + u.size)).size = u.size := by rw [ByteArray.size_extract]; omega
                    have hall : ∀ l : List UInt8, (∀ b ∈ l, b ∈ s.data.toList) → ∀ b ∈ l, isBit b = true := fun l hl b hb => bits_bytes s hbs b (hl b hb)
                    have hme : ∀ x y, ∀ b ∈ (s.extract x y).data.toList, b ∈ s.data.toList := fun x y b hb => by
                      rw [extract_toList] at hb
                      exact List.mem_of_mem_drop (List.mem_of_mem_take hb)
                    have hbm : bitsB (s.extract i (i + u.size)) = true := by
                      unfold bitsB; rw [List.all_eq_true]; exact hall _ (hme _ _)
                    have hb0 : bitsB (s.extract 0 i) = true := by
                      unfold bitsB; rw [List.all_eq_true]; exact hall _ (hme _ _)
                    have hb9 : bitsB (s.extract (i + u.size) s.size) = true := by
                      unfold bitsB; rw [List.all_eq_true]; exact hall _ (hme _ _)
                    have hadd : crc_Add.f (s.extract i (i + u.size)) u = some (strOfNums (addL (s.extract i (i + u.size)).data.toList u.data.toList)) := by
                      unfold crc_Add.f
                      rw [hbm, hbu, if_pos (by simp [hms]), if_pos (by omega)]
                    have hsz : (strOfNums (addL (s.extract i (i + u.size)).data.toList u.data.toList)).size = u.size := by
                      rw [strOfNums_size, addL_length]
                      have : (s.extract i (i + u.size)).data.toList.length = u.size := Array.length_toList.trans hms
                      simp only [this]
                      simp
                    have hbn : bitsB (strOfNums (addL (s.extract i (i + u.size)).data.toList u.data.toList)) = true := addL_bits _ _
                    simp only [signalboxlaw07_CrcFinds.j0, Bool.false_eq_true, if_false, hsum, Int.toNat_natCast]
                    rw [if_pos (by omega), if_pos (by omega), if_pos (by omega), if_pos (by omega), hadd]
                    simp only [Option.bind_some]
                    generalize hn : strOfNums (addL (s.extract i (i + u.size)).data.toList u.data.toList) = n at *
                    have e0 : (s.extract 0 i).size = i := by rw [ByteArray.size_extract]; omega
                    have e9 : (s.extract (i + u.size) s.size).size = s.size - (i + u.size) := by rw [ByteArray.size_extract]; omega
                    have hbt : bitsB (s.extract 0 i ++ n ++ s.extract (i + u.size) s.size) = true := bitsB_append2 _ _ (bitsB_append2 _ _ hb0 hbn) hb9
                    rw [if_pos (by omega), if_pos (by omega), if_pos (by rw [ByteArray.size_append]; omega), crc_Sum_yes s W P hbs hW hW2 hP, crc_Sum_yes _ W P hbt hW hW2 hP]
                    simp only [Option.bind_some, if_true]
                    have hiff : ∀ V Q, 1 ≤ V → Q < 2 ^ V → Q % 2 = 1 → u.size ≤ V → (crcN V Q s.data.toList = crcN V Q (s.extract 0 i ++ n ++ s.extract (i + u.size) s.size).data.toList ↔ s.data.toList = (s.extract 0 i ++ n ++ s.extract (i + u.size) s.size).data.toList) := by
                      intro V Q hV hQ hQ2 huV
                      rw [ByteArray.data_append, Array.toList_append, ByteArray.data_append, Array.toList_append]
                      have hpt := parts s i u.size hin
                      have hc := crc_stretch V Q hV hQ hQ2 (s.extract 0 i).data.toList (s.extract i (i + u.size)).data.toList n.data.toList (s.extract (i + u.size) s.size).data.toList (bits_bytes _ hbm) (bits_bytes _ hbn) (by
                        have h1 : (s.extract i (i + u.size)).data.toList.length = u.size := Array.length_toList.trans hms
                        have h2 : n.data.toList.length = u.size := Array.length_toList.trans hsz
                        rw [h1, h2]) (by
                        have h1 : (s.extract i (i + u.size)).data.toList.length = u.size := Array.length_toList.trans hms
                        omega)
                      rw [← hpt] at hc
                      rw [hc]
                      constructor
                      · intro h; rw [← h]; exact hpt
                      · intro h
                        have h2 := hpt.symm.trans h
                        exact List.append_cancel_left (List.append_cancel_right h2)
                    generalize ht : s.extract 0 i ++ n ++ s.extract (i + u.size) s.size = t at *
                    have hbeq : ∀ V Q, 1 ≤ V → Q < 2 ^ V → Q % 2 = 1 → u.size ≤ V → ((((crcN V Q s.data.toList : Nat) : Int) == ((crcN V Q t.data.toList : Nat) : Int)) = (s.toList == t.toList)) := by
                      intro V Q hV hQ hQ2 huV
                      rw [Bool.eq_iff_iff, beq_iff_eq, beq_iff_eq, toList_eq, ← hiff V Q hV hQ hQ2 huV]
                      omega
                    rw [hbeq W P hW hP hodd (by omega), bne_self_eq_false]
                    simp only [signalboxlaw07_CrcFinds.j1, Bool.false_eq_true, if_false]
                    by_cases h6 : (u.size : Int) > 15
                    · rw [if_pos h6, alive07]; rfl
                    · rw [if_neg h6]
                      have hcrc : ∀ x, bitsB x = true → crc_Crc.f x = some ((crcN 15 17817 x.data.toList : Nat) : Int) := by
                        intro x hx
                        unfold crc_Crc.f
                        have := crc_Sum_yes x 15 17817 hx (by omega) (by omega) (by decide)
                        rw [show ((15 : Nat) : Int) = 15 from rfl, show ((17817 : Nat) : Int) = 17817 from rfl] at this
                        rw [this]
                        rfl
                      rw [hcrc s hbs, hcrc t hbt]
                      simp only [Option.bind_some]
                      rw [hbeq 15 17817 (by omega) (by decide) (by decide) (by omega)]
                      simp [alive07]
end Go.Proofs.Ytbpjbnhhopohgaa.Pure
