/- Plain facts on texts: their bytes, cuts, sums; no conditions. -/
import Derived.Test.YtfdandgcnocklaaP0
namespace Go.Proofs.Ytfdandgcnocklaa.P
open Go.RowKit Go.Proofs.YtfdandgcnocklaaW.PrintWords

theorem ginfo_u8 : (Try.prog.info? 5).map (fun i => (i.zero, i.size, i.bytes)) = some (some (.int .u8 0), 1, 1) := by kernel_rfl
theorem ginfo_str : (Try.prog.info? 9).map (fun i => (i.zero, i.size, i.bytes)) = some (some (.string ⟨#[]⟩), 1, 16) := by kernel_rfl
theorem ba_ext {a b : ByteArray} (h : a.data.toList = b.data.toList) : a = b := ByteArray.ext (Array.ext' h)
theorem ba_append (a b : ByteArray) : (a ++ b).data.toList = a.data.toList ++ b.data.toList := by rw [ByteArray.data_append, Array.toList_append]
theorem ba_length (s : ByteArray) : s.data.toList.length = s.size := Array.length_toList
theorem ba_extract (s : ByteArray) (i j : Nat) : (s.extract i j).data.toList = (s.data.toList.drop i).take (j - i) := by
  rw [ByteArray.data_extract, Array.toList_extract, List.extract_eq_take_drop]
theorem ba_extract_extract (s : ByteArray) (a b c d : Nat) : (s.extract a b).extract c d = s.extract (a + c) (min (a + d) b) := by
  apply ba_ext
  rw [ba_extract, ba_extract, ba_extract, List.drop_take, List.drop_drop, List.take_take]
  congr 1
  omega
theorem ba_extract_all (s : ByteArray) : s.extract 0 s.size = s := by
  apply ba_ext
  rw [ba_extract, List.drop_zero, Nat.sub_zero, List.take_of_length_le (by rw [ba_length]; omega)]
theorem ba_extract_size (s : ByteArray) (i j : Nat) : (s.extract i j).size = min j s.size - i := by rw [ByteArray.size_extract]
theorem ba_extract_empty (s : ByteArray) (i j : Nat) (h : j ≤ i ∨ s.size ≤ i) : s.extract i j = ⟨#[]⟩ := by
  apply ba_ext
  rw [ba_extract]
  rcases h with h | h
  · rw [show j - i = 0 by omega, List.take_zero]
  · rw [List.drop_eq_nil_of_le (by rw [ba_length]; exact h), List.take_nil]
theorem ba_extract_min (s : ByteArray) (i j : Nat) : s.extract i (min j s.size) = s.extract i j := by
  apply ba_ext
  rw [ba_extract, ba_extract]
  by_cases h : j ≤ s.size
  · rw [Nat.min_eq_left h]
  · rw [Nat.min_eq_right (by omega), List.take_of_length_le (by rw [List.length_drop, ba_length]; omega), List.take_of_length_le (by rw [List.length_drop, ba_length]; omega)]
theorem ba_split (s : ByteArray) (i j k : Nat) (h1 : i ≤ j) (h2 : j ≤ k) : s.extract i j ++ s.extract j k = s.extract i k := by
  apply ba_ext
  rw [ba_append, ba_extract, ba_extract, ba_extract]
  have e : s.data.toList.drop j = (s.data.toList.drop i).drop (j - i) := by rw [List.drop_drop]; congr 1; omega
  rw [e, show k - i = (j - i) + (k - j) by omega, List.take_add]
theorem ba_nums (s : ByteArray) : strOfNums (bytesOf s) = s := by
  apply ba_ext
  rw [strOfNums_data, bytesOf, List.map_map]
  have : ((fun n : Int => UInt8.ofNat n.toNat) ∘ fun b : UInt8 => (b.toNat : Int)) = id := by
    funext b
    simp
  rw [this, List.map_id]
theorem ba_nums_append (xs ys : List Int) : strOfNums (xs ++ ys) = strOfNums xs ++ strOfNums ys := by
  apply ba_ext
  rw [ba_append, strOfNums_data, strOfNums_data, strOfNums_data, List.map_append]
theorem ba_nil : strOfNums [] = (⟨#[]⟩ : ByteArray) := rfl
theorem ba_append_nil (s : ByteArray) : s ++ (⟨#[]⟩ : ByteArray) = s := by
  apply ba_ext
  rw [ba_append]
  simp
theorem ba_nil_append (s : ByteArray) : (⟨#[]⟩ : ByteArray) ++ s = s := by
  apply ba_ext
  rw [ba_append]
  simp
theorem ba_append_assoc (a b c : ByteArray) : a ++ b ++ c = a ++ (b ++ c) := by
  apply ba_ext
  rw [ba_append, ba_append, ba_append, ba_append, List.append_assoc]
theorem ba_size_zero {s : ByteArray} (h : s.size = 0) : s = ⟨#[]⟩ := by
  apply ba_ext
  apply List.eq_nil_of_length_eq_zero
  rw [ba_length]
  exact h
theorem ba_toList_eq {a b : ByteArray} : a.toList = b.toList ↔ a = b := by
  rw [ByteArray.toList_eq, ByteArray.toList_eq]
  exact ⟨ba_ext, fun h => by rw [h]⟩
theorem ba_toList_nil {a : ByteArray} : a.toList = [] ↔ a.size = 0 := by
  rw [ByteArray.toList_eq, ← ba_length]
  exact ⟨fun h => by rw [h]; rfl, List.eq_nil_of_length_eq_zero⟩
end Go.Proofs.Ytfdandgcnocklaa.P
