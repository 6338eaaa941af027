/- crc.Add answers where two texts of bits of one length are unlike, else the empty text; no conditions but that a text is no longer than 2^40 bytes. -/
import Derived.Test.YtbpjbnhhopohgaaGRight
import Derived.Test.YtbpjbnhhopohgaaGSeq
import Derived.LoopTactic
namespace Go.Proofs.Ytbpjbnhhopohgaa.P
open Go.RowKit Go.Proofs.YtbpjbnhhopohgaaW.PrintWords Go.Proofs.YtbpjbnhhopohgaaW.PrintLast Go.Proofs.YtbpjbnhhopohgaaW.PrintMore
set_option linter.unusedVariables false
set_option linter.unusedSimpArgs false

def unlike (x y : UInt8) : Int := if x = y then 48 else 49
def addL (a b : List UInt8) : List Int := List.zipWith unlike a b
def crc_Add.f (a0 a1 : ByteArray) : Option ByteArray :=
  if bitsB a0 && bitsB a1 && decide (a0.size = a1.size) then (if a0.size ≤ 1099511627776 then some (strOfNums (addL a0.data.toList a1.data.toList)) else none) else some ⟨#[]⟩

theorem unlike_eq (x y : UInt8) (hx : isBit x = true) (hy : isBit y = true) : (48 + bits .xor .u8 (x.toNat : Int) (y.toNat : Int)) % 256 = unlike x y := by
  have h1 : x = 48 ∨ x = 49 := by simpa [isBit] using hx
  have h2 : y = 48 ∨ y = 49 := by simpa [isBit] using hy
  rcases h1 with rfl | rfl <;> rcases h2 with rfl | rfl <;> decide

set_option maxHeartbeats 1000000 in
theorem add_one.calls (x y : UInt8) (hx : isBit x = true) (hy : isBit y = true) (w : World) :
    Calls Try.prog 39 #[.int .u8 (x.toNat : Int), .int .u8 (y.toNat : Int)] w fun e w' => e = .returned (.int .u8 (unlike x y)) ∧ w' = w := by
  have HU := Aside0.mk (unlike_eq x y hx hy)
  clear hx hy
  go_enter Try.func39, Try.ntmps39
  go_wp2
  go_ret
  rw [← HU.out]
  exact ⟨rfl, rfl⟩

theorem addL_length (a b : List UInt8) : (addL a b).length = min a.length b.length := by simp [addL]
theorem addL_snoc (a b : ByteArray) (k : Nat) (ha : k < a.size) (hb : k < b.size) :
    addL (a.data.toList.take (k + 1)) (b.data.toList.take (k + 1)) = addL (a.data.toList.take k) (b.data.toList.take k) ++ [unlike a[k] b[k]] := by
  have h1 : a.data.toList.take (k + 1) = a.data.toList.take k ++ [a[k]] := by rw [List.take_succ_eq_append_getElem (by simpa using ha)]; rfl
  have h2 : b.data.toList.take (k + 1) = b.data.toList.take k ++ [b[k]] := by rw [List.take_succ_eq_append_getElem (by simpa using hb)]; rfl
  have e1 : k < a.data.size := ha
  have e2 : k < b.data.size := hb
  rw [h1, h2, addL, addL, List.zipWith_append (by simp; omega)]
  rfl

set_option maxHeartbeats 4000000 in
set_option maxRecDepth 100000 in
theorem pairs.calls (a b : ByteArray) (w : World) (ha : bitsB a = true) (hb : bitsB b = true) (hab : a.size = b.size) (hs : a.size ≤ 1099511627776) :
    Calls Try.prog 38 #[.string a, .string b, .func (.func 39) #[] #[]] w fun e w' => e = .returned (.string (strOfNums (addL a.data.toList b.data.toList))) ∧ Below w.heap.size w w' := by
  have HA := Aside0.mk ha
  have HB := Aside0.mk hb
  have HAB := Aside0.mk hab
  clear ha hb hab
  go_enter Try.func38, Try.ntmps38
  go_wp2
  go_loopw [7, 11] (fun v i wr => ∃ k : Nat, k ≤ a.size ∧ i = .int .i64 k ∧ Aside0 (wr.ownsRow w.heap.size 5 1 v k (nums .u8 (addL (a.data.toList.take k) (b.data.toList.take k)))) ∧ Below w.heap.size w wr) (fun _ i _ => a.size - (intOf i).toNat)
  case atStart => exact ⟨0, Nat.zero_le _, rfl, ⟨own_nil _ _ _ _⟩, Below.refl _ _⟩
  case round =>
    obtain ⟨k, hk, rfl, HO, hbw⟩ := hrel
    by_cases hlt : k < a.size
    · have hkb : k < b.size := by rw [← HAB.out]; exact hlt
      have HC := Aside0.mk (fun W => add_one.calls a[k] b[k] (bitsB_at HA.out k hlt) (bitsB_at HB.out k hkb) W)
      have HS := Aside0.mk (addL_snoc a b k hlt hkb)
      go_wp2_with fail
      refine region_mix [(0, true), (1, true), (2, true), (3, true), (4, true), (5, true), (6, true), (7, true), (8, false), (9, false), (10, false), (11, false)] (by kernel_rfl) (by kernel_rfl) (fun d _ _ _ _ h => by cases d <;> exact h) ?_
      simp only [planOps, List.filterMap_cons, List.filterMap_nil, List.getElem?_cons_zero, List.getElem?_cons_succ, Option.map_some]
      iterate 8
        apply mix_pure rfl rfl
        · intro w'; go_simp; with_reducible rfl
        · simp only [Act.put, List.setIfInBounds_toArray, List.set_cons_zero, List.set_cons_succ]; rfl
      refine mix_tail [_, _, _, _] _ _ ?_
      have hlen : (addL (a.data.toList.take k) (b.data.toList.take k)).length = k := by rw [addL_length]; simp; omega
      go_wp2_with (first | (go_at_call 39; refine (HC.out _).mono ?_; rintro e w' ⟨rfl, rfl⟩) | (at_builtin; refine print_append_num (W := wr.drew) (w0 := w) w.heap.size rfl (.tmp 14) (.tmp 23) 60 5 .u8 1 rfl Try.underlying60 info5 (by decide) u7 (addL (a.data.toList.take k) (b.data.toList.take k)) (unlike a[k] b[k]) rfl rfl ?a1 ?a2 ?a3 ?a4 ?_))
      case a1 => rw [hlen]; exact HO.out.drew
      case a2 => exact below_drew hbw
      case a3 => exact hbw.size
      case a4 => omega
      intro v1 w1 hown hb1 _ _
      rw [← HS.out] at hown
      have HO1 : Aside0 (w1.ownsRow w.heap.size 5 1 v1 (k + 1) (nums .u8 (addL (a.data.toList.take (k + 1)) (b.data.toList.take (k + 1))))) := ⟨by
        have : (addL (a.data.toList.take (k + 1)) (b.data.toList.take (k + 1))).length = k + 1 := by rw [HS.out, List.length_append, hlen]; rfl
        first | exact hown | rwa [this] at hown⟩
      clear hown hlen
      go_wp2
      go_roundw
      case rel => exact ⟨k + 1, by omega, by go_num, HO1, hb1⟩
      case measure => simp [intOf]; omega
    · have HT : Aside0 (k = a.size) := ⟨by omega⟩
      have hcv := own_string (P := Try.prog) Try.underlying60 Try.underlying5 Try.underlying9 HO.out
      go_wp2
      go_ret
      refine ⟨?_, hbw⟩
      rw [HT.out, List.take_of_length_le (by simp), List.take_of_length_le (by rw [HAB.out]; simp)]
      rfl

set_option maxHeartbeats 1000000 in
set_option maxRecDepth 100000 in
theorem crc_Add.calls (a0 a1 : ByteArray) (r : ByteArray) (w : World) (h : crc_Add.f a0 a1 = some r) :
    Calls Try.prog 26 #[.string a0, .string a1] w fun e w' => e = .returned (.string r) ∧ Below w.heap.size w w' := by
  have hR0 := fun W => stuff_Right.calls a0 (bitsB a0) W rfl
  have hR1 := fun W => stuff_Right.calls a1 (bitsB a1) W rfl
  unfold crc_Add.f at h
  cases hb : bitsB a0 with
  | false =>
    rw [hb] at h hR0
    simp at h
    subst h
    clear hb hR1
    have HR0 := Aside0.mk hR0
    clear hR0
    go_enter Try.func26, Try.ntmps26
    go_wp2_with (go_at_call 36; refine (HR0.out _).mono ?_; rintro e w1 ⟨rfl, hb1⟩)
    go_ret
    exact ⟨rfl, hb1⟩
  | true =>
    cases hc : bitsB a1 with
    | false =>
      rw [hb] at hR0
      rw [hb, hc] at h
      rw [hc] at hR1
      simp at h
      subst h
      clear hb hc
      have HR0 := Aside0.mk hR0
      have HR1 := Aside0.mk hR1
      clear hR0 hR1
      go_enter Try.func26, Try.ntmps26
      go_wp2_with fail
      refine (HR0.out _).mono ?_
      rintro e w1 ⟨rfl, hb1⟩
      go_wp2_with fail
      refine (HR1.out _).mono ?_
      rintro e w2 ⟨rfl, hb2⟩
      go_wp2
      go_ret
      exact ⟨rfl, below_step hb1 hb2⟩
    | true =>
      rw [hb] at hR0
      rw [hb, hc] at h
      rw [hc] at hR1
      have HR0 := Aside0.mk hR0
      have HR1 := Aside0.mk hR1
      clear hR0 hR1
      by_cases hs : a0.size = a1.size
      · simp [hs] at h
        obtain ⟨hle, rfl⟩ := h
        have HP := Aside0.mk (fun W => pairs.calls a0 a1 W hb hc hs (by omega))
        have ht : ((a0.size : Int) != (a1.size : Int)) = false := by rw [hs]; simp
        clear hb hc hs hle
        go_enter Try.func26, Try.ntmps26
        go_wp2_with fail
        refine (HR0.out _).mono ?_
        rintro e w1 ⟨rfl, hb1⟩
        go_wp2_with fail
        refine (HR1.out _).mono ?_
        rintro e w2 ⟨rfl, hb2⟩
        go_wp2_with fail
        refine (HP.out _).mono ?_
        rintro e w3 ⟨rfl, hb3⟩
        go_wp2
        go_ret
        exact ⟨rfl, below_step (below_step hb1 hb2) hb3⟩
      · simp [hb, hc, hs] at h
        subst h
        have ht : ((a0.size : Int) != (a1.size : Int)) = true := by simp; omega
        clear hb hc hs
        go_enter Try.func26, Try.ntmps26
        go_wp2_with fail
        refine (HR0.out _).mono ?_
        rintro e w1 ⟨rfl, hb1⟩
        go_wp2_with fail
        refine (HR1.out _).mono ?_
        rintro e w2 ⟨rfl, hb2⟩
        go_wp2
        go_ret
        exact ⟨rfl, below_step hb1 hb2⟩
end Go.Proofs.Ytbpjbnhhopohgaa.P
