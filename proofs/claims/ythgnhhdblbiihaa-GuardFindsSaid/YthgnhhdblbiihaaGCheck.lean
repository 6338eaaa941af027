/- guard.Check: a builder, a loop over a text's bytes. -/
import Derived.Test.YthgnhhdblbiihaaGBuilder
import Derived.Test.YthgnhhdblbiihaaGShelf
import Derived.Test.YthgnhhdblbiihaaGBase
import Derived.Test.YthgnhhdblbiihaaGCrcAll
namespace Go.Proofs.Ythgnhhdblbiihaa.P
open Go.RowKit Go.Proofs.YthgnhhdblbiihaaW.PrintWords Go.Proofs.YthgnhhdblbiihaaW.PrintLast Go.Proofs.YthgnhhdblbiihaaW.PrintMore
set_option linter.unusedVariables false
set_option linter.unusedSimpArgs false

def oct (n : Nat) : ByteArray := strOfNums (bitsL n 8)
def bits8 (id : Nat) (l : List UInt8) : ByteArray := l.foldl (fun acc x => acc ++ oct x.toNat) (oct id)
def guard_Check.f (id : Int) (s : ByteArray) : Option (Int × Bool) :=
  if 0 ≤ id ∧ id ≤ 255 then (if s.size ≤ 1099511627776 then crc_Sum.f (bits8 id.toNat s.data.toList) 8 29 else none) else some (0, false)
theorem oct_size (n : Nat) : (oct n).size = 8 := by
  show (strOfNums (bitsL n 8)).data.toList.length = 8
  unfold strOfNums
  simp [bitsL_length]
theorem bits8_snoc (id : Nat) (l : List UInt8) (x : UInt8) : bits8 id (l ++ [x]) = bits8 id l ++ oct x.toNat := by simp [bits8]
theorem bits8_size (id : Nat) (l : List UInt8) : (bits8 id l).size = 8 * (l.length + 1) := by
  suffices h : ∀ (l : List UInt8) (a : ByteArray), (l.foldl (fun acc x => acc ++ oct x.toNat) a).size = a.size + 8 * l.length by
    unfold bits8; rw [h, oct_size]; omega
  intro l
  induction l with
  | nil => intro a; simp
  | cons x l ih => intro a; rw [List.foldl_cons, ih, ByteArray.size_append, oct_size, List.length_cons]; omega
theorem crc_Bits_oct (n : Nat) (h : n ≤ 255) : crc_Bits.f (n : Int) 8 = some (oct n) := by
  unfold crc_Bits.f bitsOk
  rw [if_pos (by simp), if_pos (by omega)]
  rfl

set_option maxHeartbeats 8000000 in
set_option maxRecDepth 100000 in
theorem guard_Check.calls (a0 : Int) (s : ByteArray) (r1 : Int) (r2 : Bool) (w : World) (h : guard_Check.f a0 s = some (r1, r2)) :
    Calls Try.prog 14 #[.int .i64 a0, .string s] w fun e w' => e = .returned (.tuple #[.int .i64 r1, .bool r2]) ∧ Below w.heap.size w w' := by
  unfold guard_Check.f at h
  by_cases h0 : a0 < 0
  · rw [if_neg (by omega)] at h
    obtain ⟨rfl, rfl⟩ := Prod.mk.inj (Option.some.inj h)
    have t0 : decide (a0 < 0) = true := decide_eq_true h0
    clear h h0
    go_enter Try.func14, Try.ntmps14
    go_wp2
    go_ret2
    exact ⟨rfl, Below.refl _ _⟩
  have t0 : decide (a0 < 0) = false := decide_eq_false h0
  by_cases h1 : a0 > 255
  · rw [if_neg (by omega)] at h
    obtain ⟨rfl, rfl⟩ := Prod.mk.inj (Option.some.inj h)
    have t1 : decide (a0 > 255) = true := decide_eq_true h1
    clear h h0 h1
    go_enter Try.func14, Try.ntmps14
    go_wp2
    go_ret2
    exact ⟨rfl, Below.refl _ _⟩
  have t1 : decide (a0 > 255) = false := decide_eq_false h1
  rw [if_pos ⟨by omega, by omega⟩] at h
  by_cases hs : s.size ≤ 1099511627776
  · rw [if_pos hs] at h
    obtain ⟨n, rfl⟩ := Int.eq_ofNat_of_zero_le (show 0 ≤ a0 by omega)
    rw [Int.toNat_natCast] at h
    have H := Aside0.mk h
    have HB0 := Aside0.mk (crc_Bits_oct n (by omega))
    clear h h0 h1
    go_enter Try.func14, Try.ntmps14
    go_wp2_with fail
    refine (crc_Bits.calls (n : Int) 8 (oct n) _ HB0.out).mono ?_
    rintro e w1 ⟨rfl, hb1⟩
    have HI1 := Aside0.mk (bu_below (Lib.IsBuilderF.of (Lib.fresh_isBuilder 79 5 w)) hb1)
    have HB1 := Aside0.mk (((Below.refl w.heap.size w).alloc (Nat.le_refl _) (.cells #[.pointer none, .slice none 0 0] 79)).trans (hb1.mono (by simp)))
    clear hb1
    go_wp2_with fail
    refine (bu_WriteString w.heap.size w.heap.size _ (oct n) w1 HI1.out ?_ ?_).mono ?_
    · simp [oct_size]
    · exact HB1.out.size
    rintro e w2 ⟨rfl, hA2, hb2, hk2⟩
    have HI2 := Aside0.mk (show Lib.IsBuilderF 79 5 w.heap.size w.heap.size (Lib.byteCells (bits8 n []).data.toList) w2 from .inr hA2)
    have HB2 := Aside0.mk (HB1.out.trans hb2)
    clear hA2 hb2 hk2 HI1 HB1
    go_wp2_with fail
    go_loopw [19] (fun v wr => ∃ i : Nat, i ≤ s.size ∧ v = .int .i64 i ∧ Aside0 (Lib.IsBuilderF 79 5 w.heap.size w.heap.size (Lib.byteCells (bits8 n (s.data.toList.take i)).data.toList) wr) ∧ Aside0 (Below w.heap.size w wr)) (fun i _ => s.size + 1 - (intOf i).toNat)
    case atStart => exact ⟨0, Nat.zero_le _, rfl, HI2, HB2⟩
    case round =>
      clear HI2 HB2
      obtain ⟨i, hi, rfl, HI, HB⟩ := hrel
      by_cases his : i < s.size
      · have u1 : decide ((i : Int) < (s.size : Int)) = true := decide_eq_true (by omega)
        have hx : s[i].toNat ≤ 255 := by have := s[i].toNat_lt; omega
        have HBi := Aside0.mk (crc_Bits_oct s[i].toNat hx)
        have htk : s.data.toList.take (i + 1) = s.data.toList.take i ++ [s[i]] := by
          rw [List.take_succ_eq_append_getElem (by rw [ba_length]; exact his)]
          simp [ByteArray.getElem_eq_getElem_data]
        have HT := Aside0.mk htk
        clear htk
        go_wp2_with fail
        refine (crc_Bits.calls (s[i].toNat : Int) 8 (oct s[i].toNat) _ HBi.out).mono ?_
        rintro e w1 ⟨rfl, hb1⟩
        have HI1 := Aside0.mk (bu_below HI.out hb1)
        have HB1 := Aside0.mk (HB.out.trans (hb1.mono HB.out.size))
        clear hb1
        go_wp2_with fail
        refine (bu_WriteString w.heap.size w.heap.size _ (oct s[i].toNat) w1 HI1.out ?_ ?_).mono ?_
        · rw [oct_size, Lib.byteCells_length, ba_length, bits8_size, List.length_take, ba_length]; omega
        · exact HB1.out.size
        rintro e w2 ⟨rfl, hA2, hb2, hk2⟩
        go_wp2_with fail
        go_roundw
        case rel =>
          refine ⟨i + 1, by omega, by first | rfl | simp, ⟨.inr ?_⟩, ⟨HB1.out.trans hb2⟩⟩
          rw [HT.out, bits8_snoc, ba_append, Lib.byteCells_append]
          exact hA2
        case measure => simp [intOf]; omega
      · have u1 : decide ((i : Int) < (s.size : Int)) = false := decide_eq_false (by omega)
        rw [show i = s.size from by omega, show s.size = s.data.toList.length from (ba_length s).symm, List.take_length] at HI
        go_wp2_with fail
        refine (sh_Builder_String_any_k w.heap.size w.heap.size (bits8 n s.data.toList).data.toList wr HI.out HB.out.size).mono ?_
        rintro e w1 ⟨rfl, hI1, hb1, hk1⟩
        rw [show (⟨(bits8 n s.data.toList).data.toList.toArray⟩ : ByteArray) = bits8 n s.data.toList from rfl]
        go_wp2_with fail
        refine (crc_Sum.calls (bits8 n s.data.toList) 8 29 r1 r2 w1 H.out).mono ?_
        rintro e w2 ⟨rfl, hb2⟩
        go_wp2_with fail
        go_ret2
        exact ⟨rfl, (HB.out.trans hb1).trans (hb2.mono (HB.out.trans hb1).size)⟩
  · rw [if_neg hs] at h; cases h
end Go.Proofs.Ythgnhhdblbiihaa.P
