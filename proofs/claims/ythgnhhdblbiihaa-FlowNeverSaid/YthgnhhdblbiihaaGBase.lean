/- Several texts of this session's own as one. -/
import Derived.Test.YthgnhhdblbiihaaP0
import Derived.Laws.BitsAllLaws
import Derived.Laws.BitsLemmas
namespace Go.Proofs.Ythgnhhdblbiihaa.P
open Go.RowKit Go.Proofs.YthgnhhdblbiihaaW.PrintWords

theorem bt_nat (s : ByteArray) (i : Nat) (h : i < s.size) : bt s (i : Int) = (s[i].toNat : Int) := by
  unfold bt
  simp [h]
theorem w64_small (x : Int) (h0 : -4611686018427387904 ≤ x) (h1 : x ≤ 4611686018427387904) : wrap64 x = x := by
  unfold wrap64; omega
theorem wrap_succ (i : Nat) (h : i < 9223372036854775807) : wrap64 ((i : Int) + 1) = ((i + 1 : Nat) : Int) := by
  unfold wrap64; omega
end Go.Proofs.Ythgnhhdblbiihaa.P

namespace Go.Proofs.Ythgnhhdblbiihaa.P
open Go.RowKit Go.Proofs.YthgnhhdblbiihaaW.PrintWords

theorem ginfo_u8 : (Try.prog.info? 5).map (fun i => (i.zero, i.size, i.bytes)) = some (some (.int .u8 0), 1, 1) := by kernel_rfl
theorem ginfo_str : (Try.prog.info? 9).map (fun i => (i.zero, i.size, i.bytes)) = some (some (.string ⟨#[]⟩), 1, 16) := by kernel_rfl
theorem ba_ext {a b : ByteArray} (h : a.data.toList = b.data.toList) : a = b := ByteArray.ext (Array.ext' h)
theorem ba_append (a b : ByteArray) : (a ++ b).data.toList = a.data.toList ++ b.data.toList := by rw [ByteArray.data_append, Array.toList_append]
theorem ba_length (s : ByteArray) : s.data.toList.length = s.size := Array.length_toList
theorem ba_extract (s : ByteArray) (i j : Nat) : (s.extract i j).data.toList = (s.data.toList.drop i).take (j - i) := by
  rw [ByteArray.data_extract, Array.toList_extract, List.extract_eq_take_drop]
theorem ba_extract_extract (s : ByteArray) (a b c d : Nat) : (s.extract a b).extract c d = s.extract (a + c) (min (a + d) b) := by
  apply ba_ext
  rw [ba_extract, ba_extract, ba_extract, List.drop_take, List.drop_drop, List.take_take]
  congr 1
  omega
theorem ba_extract_all (s : ByteArray) : s.extract 0 s.size = s := by
  apply ba_ext
  rw [ba_extract, List.drop_zero, Nat.sub_zero, List.take_of_length_le (by rw [ba_length]; omega)]
theorem ba_extract_size (s : ByteArray) (i j : Nat) : (s.extract i j).size = min j s.size - i := by rw [ByteArray.size_extract]
theorem ba_extract_empty (s : ByteArray) (i j : Nat) (h : j ≤ i ∨ s.size ≤ i) : s.extract i j = ⟨#[]⟩ := by
  apply ba_ext
  rw [ba_extract]
  rcases h with h | h
  · rw [show j - i = 0 by omega, List.take_zero]
  · rw [List.drop_eq_nil_of_le (by rw [ba_length]; exact h), List.take_nil]
theorem ba_extract_min (s : ByteArray) (i j : Nat) : s.extract i (min j s.size) = s.extract i j := by
  apply ba_ext
  rw [ba_extract, ba_extract]
  by_cases h : j ≤ s.size
  · rw [Nat.min_eq_left h]
  · rw [Nat.min_eq_right (by omega), List.take_of_length_le (by rw [List.length_drop, ba_length]; omega), List.take_of_length_le (by rw [List.length_drop, ba_length]; omega)]
theorem ba_split (s : ByteArray) (i j k : Nat) (h1 : i ≤ j) (h2 : j ≤ k) : s.extract i j ++ s.extract j k = s.extract i k := by
  apply ba_ext
  rw [ba_append, ba_extract, ba_extract, ba_extract]
  have e : s.data.toList.drop j = (s.data.toList.drop i).drop (j - i) := by rw [List.drop_drop]; congr 1; omega
  rw [e, show k - i = (j - i) + (k - j) by omega, List.take_add]
theorem ba_nums (s : ByteArray) : strOfNums (bytesOf s) = s := by
  apply ba_ext
  rw [strOfNums_data, bytesOf, List.map_map]
  have : ((fun n : Int => UInt8.ofNat n.toNat) ∘ fun b : UInt8 => (b.toNat : Int)) = id := by
    funext b
    simp
  rw [this, List.map_id]
theorem ba_nums_append (xs ys : List Int) : strOfNums (xs ++ ys) = strOfNums xs ++ strOfNums ys := by
  apply ba_ext
  rw [ba_append, strOfNums_data, strOfNums_data, strOfNums_data, List.map_append]
theorem ba_nil : strOfNums [] = (⟨#[]⟩ : ByteArray) := rfl
theorem ba_append_nil (s : ByteArray) : s ++ (⟨#[]⟩ : ByteArray) = s := by
  apply ba_ext
  rw [ba_append]
  simp
theorem ba_nil_append (s : ByteArray) : (⟨#[]⟩ : ByteArray) ++ s = s := by
  apply ba_ext
  rw [ba_append]
  simp
theorem ba_append_assoc (a b c : ByteArray) : a ++ b ++ c = a ++ (b ++ c) := by
  apply ba_ext
  rw [ba_append, ba_append, ba_append, ba_append, List.append_assoc]
theorem ba_size_zero {s : ByteArray} (h : s.size = 0) : s = ⟨#[]⟩ := by
  apply ba_ext
  apply List.eq_nil_of_length_eq_zero
  rw [ba_length]
  exact h
theorem ba_toList_eq {a b : ByteArray} : a.toList = b.toList ↔ a = b := by
  rw [ByteArray.toList_eq, ByteArray.toList_eq]
  exact ⟨ba_ext, fun h => by rw [h]⟩
theorem ba_toList_nil {a : ByteArray} : a.toList = [] ↔ a.size = 0 := by
  rw [ByteArray.toList_eq, ← ba_length]
  exact ⟨fun h => by rw [h]; rfl, List.eq_nil_of_length_eq_zero⟩
end Go.Proofs.Ythgnhhdblbiihaa.P

namespace Go.Proofs.Ythgnhhdblbiihaa.P
open Go.RowKit Go.Proofs.YthgnhhdblbiihaaW.PrintWords Go.Proofs.YthgnhhdblbiihaaW.PrintLast
set_option linter.unusedVariables false
set_option linter.unusedSimpArgs false

def byte1 (x : Nat) : ByteArray := strOfNums [(x : Int)]
theorem byte1_size (n : Nat) : (byte1 n).size = 1 := rfl
theorem bt_lt (s : ByteArray) (i : Int) : 0 ≤ bt s i ∧ bt s i < 256 := ⟨(bt_range s i).1, by have := (bt_range s i).2; omega⟩
theorem byte1_bt (s : ByteArray) (i : Nat) (h : i < s.size) : byte1 (bt s (i : Int)).toNat = s.extract i (i + 1) := by
  rw [bt_nat s i h, Int.toNat_natCast]
  apply ba_ext
  rw [ba_extract, show i + 1 - i = 1 from by omega]
  have hi : i < s.data.toList.length := by rw [ba_length]; exact h
  rw [List.drop_eq_getElem_cons hi, List.take_succ_cons, List.take_zero]
  have e : s.data.toList[i] = s[i] := by simp [ByteArray.getElem_eq_getElem_data]
  rw [e]
  unfold byte1 strOfNums
  have : UInt8.ofNat (s[i].toNat) = s[i] := UInt8.ofNat_toNat
  simp [this]
theorem part_head (s : ByteArray) (h : 0 < s.size) : byte1 (bt s 0).toNat ++ s.extract 1 s.size = s := by
  have := byte1_bt s 0 h
  rw [show ((0 : Nat) : Int) = 0 from rfl] at this
  rw [this, ba_split s 0 1 s.size (by omega) h, ba_extract_all]
theorem part_head2 (s : ByteArray) (h : 1 < s.size) : byte1 (bt s 0).toNat ++ byte1 (bt s 1).toNat ++ s.extract 2 s.size = s := by
  have h0 := byte1_bt s 0 (by omega)
  have h1 := byte1_bt s 1 h
  rw [show ((0 : Nat) : Int) = 0 from rfl] at h0
  rw [show ((1 : Nat) : Int) = 1 from rfl] at h1
  rw [h0, h1, ba_split s 0 1 2 (by omega) (by omega), ba_split s 0 2 s.size (by omega) (by omega), ba_extract_all]
theorem byte1_list (n : Nat) : (byte1 n).data.toList = [UInt8.ofNat n] := by
  unfold byte1 strOfNums
  simp
theorem bt_list (s : ByteArray) (i : Nat) (h : i < s.size) : bt s (i : Int) = ((s.data.toList[i]'(by rw [ba_length]; exact h)).toNat : Int) := by
  rw [bt_nat s i h]
  simp [ByteArray.getElem_eq_getElem_data]
theorem bt_of_list (s : ByteArray) (i : Nat) (x : UInt8) (h : s.data.toList[i]? = some x) : bt s (i : Int) = (x.toNat : Int) := by
  obtain ⟨hi, e⟩ := List.getElem?_eq_some_iff.1 h
  rw [ba_length] at hi
  rw [bt_list s i hi, e]
theorem bt_head1 (n : Nat) (hn : n < 256) (d : ByteArray) : bt (byte1 n ++ d) 0 = n := by
  have := bt_of_list (byte1 n ++ d) 0 (UInt8.ofNat n) (by rw [ba_append, byte1_list]; rfl)
  rw [show ((0 : Nat) : Int) = 0 from rfl] at this
  rw [this, UInt8.toNat_ofNat']
  omega
theorem extract_head1 (n : Nat) (d : ByteArray) : (byte1 n ++ d).extract 1 (byte1 n ++ d).size = d := by
  apply ba_ext
  rw [ba_extract, ba_append, byte1_list, ByteArray.size_append, byte1_size]
  rw [List.singleton_append, List.drop_succ_cons, List.drop_zero]
  rw [show 1 + d.size - 1 = d.data.toList.length from by rw [ba_length]; omega, List.take_length]
theorem bt_head2 (m n : Nat) (hm : m < 256) (hn : n < 256) (d : ByteArray) : bt (byte1 m ++ byte1 n ++ d) 0 = m ∧ bt (byte1 m ++ byte1 n ++ d) 1 = n := by
  have h0 := bt_of_list (byte1 m ++ byte1 n ++ d) 0 (UInt8.ofNat m) (by rw [ba_append, ba_append, byte1_list]; rfl)
  have h1 := bt_of_list (byte1 m ++ byte1 n ++ d) 1 (UInt8.ofNat n) (by rw [ba_append, ba_append, byte1_list, byte1_list]; rfl)
  rw [show ((0 : Nat) : Int) = 0 from rfl] at h0
  rw [show ((1 : Nat) : Int) = 1 from rfl] at h1
  rw [h0, h1, UInt8.toNat_ofNat', UInt8.toNat_ofNat']
  omega
theorem extract_head2 (m n : Nat) (d : ByteArray) : (byte1 m ++ byte1 n ++ d).extract 2 (byte1 m ++ byte1 n ++ d).size = d := by
  apply ba_ext
  rw [ba_extract, ba_append, ba_append, byte1_list, byte1_list, ByteArray.size_append, ByteArray.size_append, byte1_size, byte1_size]
  rw [List.singleton_append, List.cons_append, List.singleton_append, List.drop_succ_cons, List.drop_succ_cons, List.drop_zero]
  rw [show 1 + 1 + d.size - 2 = d.data.toList.length from by rw [ba_length]; omega, List.take_length]
end Go.Proofs.Ythgnhhdblbiihaa.P

namespace Go.Proofs.Ythgnhhdblbiihaa.P
open Go.RowKit
theorem gb_ofInt (a : Nat) (ha : a < 9223372036854775808) : (BitVec.ofInt 64 (a : Int)).toNat = a := by
  rw [BitVec.ofInt_natCast, BitVec.toNat_ofNat]
  exact Nat.mod_eq_of_lt (by omega)
theorem gb_wrap (x : Nat) (hx : x < 9223372036854775808) : IntKind.i64.wrap (x : Int) = x := by
  rw [IntKind.wrap_i64]; omega
theorem bits_or (a b : Nat) (ha : a < 9223372036854775808) (hb : b < 9223372036854775808) : bits .or .i64 (a : Int) (b : Int) = ((a ||| b : Nat) : Int) := by
  have hx : a ||| b < 2 ^ 63 := Nat.or_lt_two_pow (by omega) (by omega)
  show IntKind.i64.wrap ((BitVec.ofInt 64 (a : Int) ||| BitVec.ofInt 64 (b : Int)).toNat : Int) = _
  rw [BitVec.toNat_or, gb_ofInt a ha, gb_ofInt b hb]
  exact gb_wrap _ (by omega)
theorem bits_and (a b : Nat) (ha : a < 9223372036854775808) (hb : b < 9223372036854775808) : bits .and .i64 (a : Int) (b : Int) = ((a &&& b : Nat) : Int) := by
  have hx : a &&& b < 2 ^ 63 := Nat.and_lt_two_pow _ (by omega)
  show IntKind.i64.wrap ((BitVec.ofInt 64 (a : Int) &&& BitVec.ofInt 64 (b : Int)).toNat : Int) = _
  rw [BitVec.toNat_and, gb_ofInt a ha, gb_ofInt b hb]
  exact gb_wrap _ (by omega)
theorem bits_xor (a b : Nat) (ha : a < 9223372036854775808) (hb : b < 9223372036854775808) : bits .xor .i64 (a : Int) (b : Int) = ((a ^^^ b : Nat) : Int) := by
  have hx : a ^^^ b < 2 ^ 63 := Nat.xor_lt_two_pow (by omega) (by omega)
  show IntKind.i64.wrap ((BitVec.ofInt 64 (a : Int) ^^^ BitVec.ofInt 64 (b : Int)).toNat : Int) = _
  rw [BitVec.toNat_xor, gb_ofInt a ha, gb_ofInt b hb]
  exact gb_wrap _ (by omega)
theorem bits_or_bit0 (n : Nat) (h : n < 4611686018427387904) : bits .or .i64 ((n : Int) * 2) 0 = ((2 * n : Nat) : Int) := by
  have := bits_or (2 * n) 0 (by omega) (by omega)
  rw [Nat.or_zero] at this
  rw [← this]
  congr 1
  omega
theorem bits_or_bit1 (n : Nat) (h : n < 4611686018427387904) : bits .or .i64 ((n : Int) * 2) 1 = ((2 * n + 1 : Nat) : Int) := by
  have := bits_or (2 * n) 1 (by omega) (by omega)
  rw [show 2 * n ||| 1 = 2 * n + 1 from by rw [← Nat.two_pow_add_eq_or_of_lt (i := 1) (b := 1) (by omega) n]] at this
  rw [← this]
  congr 1
  omega
theorem bits_and_one (n : Nat) (h : n < 9223372036854775808) : bits .and .i64 (n : Int) 1 = ((n % 2 : Nat) : Int) := by
  rw [show (1 : Int) = ((1 : Nat) : Int) from rfl, bits_and n 1 h (by omega), Nat.and_one_is_mod]
theorem bits_and_mask (n w : Nat) (h : n < 9223372036854775808) (hw : w ≤ 62) : bits .and .i64 (n : Int) ((2 : Int) ^ w - 1) = ((n % 2 ^ w : Nat) : Int) := by
  have hp : 2 ^ w ≤ 2 ^ 62 := Nat.pow_le_pow_right (by omega) hw
  have h1 : 1 ≤ 2 ^ w := Nat.one_le_two_pow
  rw [show ((2 : Int) ^ w - 1) = ((2 ^ w - 1 : Nat) : Int) from by push_cast [h1]; rfl, bits_and n (2 ^ w - 1) h (by omega), Nat.and_two_pow_sub_one_eq_mod]
end Go.Proofs.Ythgnhhdblbiihaa.P

namespace Go.Proofs.Ythgnhhdblbiihaa.P
open Go.RowKit Go.Proofs.YthgnhhdblbiihaaW.PrintWords

theorem results_c1 {P : Program} {fn : Func} {p : Tmp} {ty : TypeId} (h : fn.results = #[.cell p ty]) (tmps : Array Value) (w : World) (g : Nat) (t : TypeId) (cs : Array Value) (fr : Nat × Nat) (d : TypeDesc)
    (hp : tmps.getD p undef = .pointer (some ⟨g, 0, none⟩)) (hg : w.heap[g]? = some (.cells cs t fr))
    (hu : P.underlying ty = some d) (hd : (match d with | .struct _ | .array _ _ => true | _ => false) = true) (hi : (P.info? ty).map (·.size) = some cs.size) :
    (results fn tmps).run P w = .ok (.agg cs) w := by
  have hp' : tmps[p]?.getD undef = .pointer (some ⟨g, 0, none⟩) := by simpa using hp
  simp [results, h, hp', asAddr, run_loadVar_row w g t ty cs fr d hg hu hd hi]
end Go.Proofs.Ythgnhhdblbiihaa.P

namespace Go.Proofs.Ythgnhhdblbiihaa.P
open Go.RowKit

theorem run_index5 (P : Program) (t e : TypeId) (a b c d f : Value) (w : World) (h : P.underlying t = some (.array 5 e)) (hz : ∀ w, (Go.sizeOf e).run P w = .ok 1 w) (hagg : ∀ w, (isAgg e).run P w = .ok false w) (i : Nat) (hi : i < 5) :
    (Instr.index t (.agg #[a, b, c, d, f]) (.int .i64 (i : Int))).run P w = .ok (#[a, b, c, d, f].getD i undef) w := by
  obtain rfl | rfl | rfl | rfl | rfl : i = 0 ∨ i = 1 ∨ i = 2 ∨ i = 3 ∨ i = 4 := by omega
  all_goals simp [Instr.index, run_underlying h, asIntOf, hz, hagg, go_sem]
end Go.Proofs.Ythgnhhdblbiihaa.P
