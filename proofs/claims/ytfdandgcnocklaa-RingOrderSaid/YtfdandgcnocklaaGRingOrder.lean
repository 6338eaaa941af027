/- RingOrder's walk: what is taken is what was put and not lost, in that order. -/
import Derived.Test.YtfdandgcnocklaaGRingNil
import Derived.Test.YtfdandgcnocklaaGRingS
import Derived.Test.YtfdandgcnocklaaGBytes
namespace Go.Proofs.Ytfdandgcnocklaa.P
open Go.RowKit Go.Proofs.YtfdandgcnocklaaW.PrintWords Go.Proofs.YtfdandgcnocklaaW.PrintLast Go.Proofs.YtfdandgcnocklaaW.PrintMore
set_option linter.unusedVariables false
set_option linter.unusedSimpArgs false

abbrev sv (s : ByteArray) : Value := .string s
theorem vals_encs (L : List ByteArray) : valsOfS L = encs sv L := rfl
theorem own_keptS {w w' : World} {base : Nat} {e : TypeId} {size n : Nat} {v : Value} {xs : List Value} {S : Nat → Prop} (h : w.ownsRow base e size v n xs) (hk : Kept w w' S) (hS : ∀ k, v.ownBlock = some k → ¬ S k) : w'.ownsRow base e size v n xs := by
  obtain ⟨h1, h2⟩ := h
  refine ⟨h1, ?_⟩
  rcases h2 with h2 | ⟨g, cap, cur, rfl, hg, hh, r⟩
  · exact .inl h2
  · exact .inr ⟨g, cap, cur, rfl, hg, blk_kept hh hk (hS g rfl), r⟩
theorem own_blockS {w : World} {base : Nat} {e : TypeId} {size n : Nat} {v : Value} {xs : List Value} (h : w.ownsRow base e size v n xs) (k : Nat) (hk : v.ownBlock = some k) : k < w.heap.size ∧ base ≤ k := by
  obtain ⟨h1, h2⟩ := h
  rcases h2 with ⟨rfl, _⟩ | ⟨g, cap, cur, rfl, hg, hh, r⟩
  · cases hk
  · obtain rfl : g = k := by injection hk
    exact ⟨blk_lt hh, hg⟩
theorem kept_grown {W W1 : World} {row : Option Nat} (hg : W.grownBy W1 row) : Kept W W1 (fun k => row = some k) := ⟨hg.size, fun i hi hn => hg.block i hi (fun he => hn he.symm)⟩
theorem own_readsS {w : World} {base : Nat} {v : Value} {L : List ByteArray} {e : TypeId} (h : w.ownsRow base e 1 v L.length (encs sv L)) (hb : L.length ≤ 100000) :
    ∃ A c, v = .slice A L.length c ∧ ReadsOf sv ⟨#[]⟩ w A L.length L ∧ L.length ≤ c := by
  obtain ⟨h1, h2⟩ := h
  rcases h2 with ⟨rfl, h0⟩ | ⟨g, cap, cur, rfl, hg, hh, hc, hm, hs, ht⟩
  · obtain rfl := List.eq_nil_of_length_eq_zero h0
    exact ⟨none, 0, rfl, ⟨rfl, by simp, fun h => absurd h (by simp)⟩, Nat.le_refl _⟩
  · refine ⟨_, cap, rfl, ⟨rfl, by omega, fun hn => ⟨_, rfl, fun j hj => ?_⟩⟩, hc⟩
    rw [addr_addS, blk_cell hh, Nat.zero_add, Array.getElem?_toList.symm]
    have e2 : (cur.toList.take (L.length * 1))[j]? = (encs sv L)[j]? := by rw [ht]
    rw [List.getElem?_take_of_lt (by omega)] at e2
    rw [e2]
    unfold encs
    rw [List.getElem?_map, List.getElem?_eq_getElem hj]
    simp [List.getD_eq_getElem?_getD, hj]
/-- The row, what was put, and what was taken. -/
structure OrdI (w0 W : World) (g b n : Nat) (vin vout : Value) (I O L : List ByteArray) (lost : Int) : Prop where
  ring : RingS W w0.heap.size g b n L lost
  inn : W.ownsRow w0.heap.size 9 1 vin I.length (encs sv I)
  out : W.ownsRow w0.heap.size 9 1 vout O.length (encs sv O)
  a1 : ∀ k, vin.ownBlock = some k → ¬ GB g b k
  a2 : ∀ k, vout.ownBlock = some k → ¬ GB g b k
  a3 : ∀ k, vin.ownBlock = some k → ¬ vout.ownBlock = some k
  below : Below w0.heap.size w0 W
section
variable {w0 W W' : World} {g b n : Nat} {vin vout : Value} {I O L L' : List ByteArray} {lost lost' : Int}
theorem OrdI.quiet (h : OrdI w0 W g b n vin vout I O L lost) (hb : Below W.heap.size W W') : OrdI w0 W' g b n vin vout I O L lost :=
  ⟨h.ring.below hb, own_keptS h.inn (Kept.of_below hb (fun _ => False)) (fun _ _ => id), own_keptS h.out (Kept.of_below hb (fun _ => False)) (fun _ _ => id), h.a1, h.a2, h.a3, h.below.trans (hb.mono h.below.size)⟩
theorem OrdI.turned (h : OrdI w0 W g b n vin vout I O L lost) (hR : RingS W' w0.heap.size g b n L' lost') (hb : Below w0.heap.size w0 W') (hk : Kept W W' (GB g b)) : OrdI w0 W' g b n vin vout I O L' lost' :=
  ⟨hR, own_keptS h.inn hk h.a1, own_keptS h.out hk h.a2, h.a1, h.a2, h.a3, hb⟩
theorem OrdI.appOut (h : OrdI w0 W g b n vin vout I O L lost) {v1 : Value} {xs : List ByteArray} (ho : W'.ownsRow w0.heap.size 9 1 v1 xs.length (encs sv xs)) (hb : Below w0.heap.size w0 W') (hg : W.grownBy W' vout.ownBlock)
    (hat : v1.ownBlock = vout.ownBlock ∨ ∃ b, v1.ownBlock = some b ∧ W.heap.size ≤ b) : OrdI w0 W' g b n vin v1 I xs L lost := by
  have hk := kept_grown hg
  have hl := h.ring.lt
  refine ⟨h.ring.kept hk (fun e => h.a2 g e (.inl rfl)) (fun e => h.a2 b e (.inr rfl)), own_keptS h.inn hk h.a3, ho, h.a1, fun k hk1 => ?_, fun k hk1 => ?_, hb⟩
  · rcases hat with e | ⟨c, e, hc⟩
    · exact h.a2 k (e ▸ hk1)
    · rw [e] at hk1
      injection hk1 with hk1
      subst hk1
      rintro (rfl | rfl) <;> omega
  · rcases hat with e | ⟨c, e, hc⟩
    · rw [e]; exact h.a3 k hk1
    · rw [e]
      intro e2
      injection e2 with e2
      have := own_blockS h.inn k hk1
      omega
theorem OrdI.appIn (h : OrdI w0 W g b n vin vout I O L lost) {v1 : Value} {xs : List ByteArray} (ho : W'.ownsRow w0.heap.size 9 1 v1 xs.length (encs sv xs)) (hb : Below w0.heap.size w0 W') (hg : W.grownBy W' vin.ownBlock)
    (hat : v1.ownBlock = vin.ownBlock ∨ ∃ b, v1.ownBlock = some b ∧ W.heap.size ≤ b) : OrdI w0 W' g b n v1 vout xs O L lost := by
  have hk := kept_grown hg
  have hl := h.ring.lt
  refine ⟨h.ring.kept hk (fun e => h.a1 g e (.inl rfl)) (fun e => h.a1 b e (.inr rfl)), ho, own_keptS h.out hk (fun k e1 e2 => h.a3 k e2 e1), fun k hk1 => ?_, h.a2, fun k hk1 => ?_, hb⟩
  · rcases hat with e | ⟨c, e, hc⟩
    · exact h.a1 k (e ▸ hk1)
    · rw [e] at hk1
      injection hk1 with hk1
      subst hk1
      rintro (rfl | rfl) <;> omega
  · rcases hat with e | ⟨c, e, hc⟩
    · rw [e] at hk1; exact h.a3 k hk1
    · rw [e] at hk1
      injection hk1 with hk1
      intro e2
      have := own_blockS h.out k e2
      omega
end

set_option maxHeartbeats 8000000 in
set_option maxRecDepth 100000 in
theorem ring_order_law (a0 : Int) (A1 : Option Addr) (c1 : Nat) (l1 : List ByteArray) (a2 : Int) (w : World) (hr1 : Kd.C Kd.string w A1 l1.length l1) (hc1 : l1.length ≤ c1) :
    Calls Try.prog 5 #[.int .i64 a0, .slice A1 l1.length c1, .int .i64 a2] w fun e w' => e = .returned (.bool true) ∧ Below w.heap.size w w' := by
  have HR1 := Aside0.mk hr1
  have HC1 := Aside0.mk hc1
  clear hr1 hc1
  by_cases hok : l1.length ≤ 300 ∧ 0 ≤ a2 ∧ a2 ≤ 5
  · obtain ⟨hl, h0, h5⟩ := hok
    have t1 : decide ((l1.length : Int) > 300) = false := decide_eq_false (by omega)
    have t2 : decide (a2 < 0) = false := decide_eq_false (by omega)
    have t3 : decide (a2 > 5) = false := decide_eq_false (by omega)
    obtain ⟨T, rfl⟩ := Int.eq_ofNat_of_zero_le h0
    go_enter Try.func5, Try.ntmps5
    go_wp2_with fail
    refine (ring_NewS.calls a0 w).mono ?_
    rintro e w1 ⟨g, b, rfl, hR, hB⟩
    obtain ⟨n, hn⟩ : ∃ n, n = clampN a0 := ⟨_, rfl⟩
    rw [← hn] at hR
    have HI : Aside0 (OrdI w w1 g b n (.slice none 0 0) (.slice none 0 0) [] [] [] 0) := ⟨⟨hR, own_nil _ _ _ _, own_nil _ _ _ _, (fun k h => by cases h), (fun k h => by cases h), (fun k h => by cases h), hB⟩⟩
    clear hR hB hn
    go_wp2_with fail
    go_loopw [8, 9, 10, 33] (fun vin vout vl v wr => ∃ (i : Nat) (I O L : List ByteArray) (lost : Int), i ≤ l1.length ∧ v = .int .i64 i ∧ vl = .int .i64 lost ∧ Aside0 (I = O ++ L) ∧ Aside0 (I.length ≤ i) ∧ Aside0 (OrdI w wr g b n vin vout I O L lost)) (fun _ _ _ v _ => l1.length - (intOf v).toNat)
    case atStart => exact ⟨0, [], [], [], 0, by omega, rfl, rfl, ⟨rfl⟩, ⟨by simp⟩, HI⟩
    case round =>
      clear HI
      obtain ⟨i, I, O, L, lost, hi, rfl, rfl, HE, HL, HI⟩ := hrel
      by_cases hil : i < l1.length
      · have v1 : decide ((i : Int) < (l1.length : Int)) = true := decide_eq_true (by omega)
        obtain ⟨ad, rfl, hx⟩ := Kd.at_string (Kd.C_below HR1.out HI.out.below) (i : Int) (by omega) (by omega)
        rw [Int.toNat_natCast] at hx
        go_wp2_with fail
        go_loopw [9, 38] (fun vout v wr => ∃ (j : Nat) (O L : List ByteArray), j ≤ T ∧ v = .int .i64 j ∧ Aside0 (I = O ++ L) ∧ Aside0 (OrdI w wr g b n u8 vout I O L lost)) (fun _ v _ => T - (intOf v).toNat)
        case atStart => exact ⟨0, O, L, by omega, rfl, HE, HI⟩
        case round =>
          clear HI HE
          obtain ⟨j, O, L, hj, rfl, HE, HI⟩ := hrel
          by_cases hjt : j < T
          · have v2 : decide ((j : Int) < (T : Int)) = true := decide_eq_true (by omega)
            cases L with
            | nil =>
              go_wp2_with fail
              refine (ring_TakeS.calls (w0 := w) HI.out.ring HI.out.below).mono ?_
              rintro e w2 ⟨rfl, hR, hB, hk⟩
              have HI2 := Aside0.mk (HI.out.turned hR hB hk)
              clear hR hB hk HI
              go_wp2_with fail
              go_roundw
              case rel => exact ⟨j + 1, O, [], by omega, by first | rfl | simp, HE, HI2⟩
              case measure => simp [intOf]; omega
            | cons x M =>
              have hOl : O.length ≤ 300 := by
                have h1 := HL.out
                have h2 := congrArg List.length HE.out
                rw [List.length_append] at h2
                omega
              have HOl := Aside0.mk hOl
              clear hOl
              go_wp2_with fail
              refine (ring_TakeS.calls (w0 := w) HI.out.ring HI.out.below).mono ?_
              rintro e w2 ⟨rfl, hR, hB, hk⟩
              have HI2 := Aside0.mk (HI.out.turned hR hB hk)
              clear hR hB hk HI
              have t0 : ((if (x :: M).length = 0 then (6 : Int) else 0) == 0) = true := by simp
              go_wp2_with (at_builtin; refine print_append_of (W := w2) (w0 := w) sv w.heap.size rfl (.tmp 47) (.tmp 49) 45 9 (.string ⟨#[]⟩) 16 rfl Try.underlying45 infoS rfl (by decide) u9 O x rfl rfl rfl HI2.out.out HI2.out.below HI2.out.below.size ?len ?_)
              case len => have := HOl.out; omega
              intro v1 w3 ho hB3 hg hat
              have HI3 := Aside0.mk (HI2.out.appOut (xs := O ++ [x]) (by rw [List.length_append, List.length_singleton]; exact ho) hB3 hg hat)
              clear ho hB3 hg hat HI2
              go_wp2_with fail
              go_roundw
              case rel => exact ⟨j + 1, O ++ [x], M, by omega, by first | rfl | simp, ⟨by rw [HE.out]; simp⟩, HI3⟩
              case measure => simp [intOf]; omega
          · have v2 : decide ((j : Int) < (T : Int)) = false := decide_eq_false (by omega)
            by_cases hfull : L.length < n
            · have u1 : decide (L.length < n) = true := decide_eq_true hfull
              go_wp2_with fail
              refine (ring_PutS.calls (w0 := w) _ HI.out.ring HI.out.below).mono ?_
              rintro e w2 ⟨rfl, hR, hB, hk⟩
              rw [if_pos hfull, if_pos hfull] at hR
              have HI2 := Aside0.mk (HI.out.turned hR hB hk)
              clear hR hB hk HI
              go_wp2_with (at_builtin; refine print_append_of (W := w2) (w0 := w) sv w.heap.size rfl (.tmp 55) (.tmp 57) 45 9 (.string ⟨#[]⟩) 16 rfl Try.underlying45 infoS rfl (by decide) u8 I _ rfl rfl rfl HI2.out.inn HI2.out.below HI2.out.below.size ?len ?_)
              case len => have := HL.out; omega
              intro v1 w3 ho hB3 hg hat
              have HI3 := Aside0.mk (HI2.out.appIn (xs := I ++ [_]) (by rw [List.length_append, List.length_singleton]; exact ho) hB3 hg hat)
              clear ho hB3 hg hat HI2
              go_wp2_with fail
              go_roundw
              case rel => exact ⟨i + 1, _, O, _, _, by omega, by first | rfl | simp, rfl, ⟨by rw [HE.out, List.append_assoc]⟩, ⟨by have := HL.out; rw [List.length_append, List.length_singleton]; omega⟩, HI3⟩
              case measure => simp [intOf]; omega
            · have u1 : decide (L.length < n) = false := decide_eq_false hfull
              go_wp2_with fail
              refine (ring_PutS.calls (w0 := w) _ HI.out.ring HI.out.below).mono ?_
              rintro e w2 ⟨rfl, hR, hB, hk⟩
              rw [if_neg hfull, if_neg hfull] at hR
              have HI2 := Aside0.mk (HI.out.turned hR hB hk)
              clear hR hB hk HI
              go_wp2_with fail
              go_roundw
              case rel => exact ⟨i + 1, I, O, L, _, by omega, by first | rfl | simp, rfl, HE, ⟨by have := HL.out; omega⟩, HI2⟩
              case measure => simp [intOf]; omega
      · have v1 : decide ((i : Int) < (l1.length : Int)) = false := decide_eq_false (by omega)
        have HIl : Aside0 (I.length ≤ 300) := ⟨by have := HL.out; omega⟩
        have HOl : Aside0 (O.length + L.length = I.length) := ⟨by rw [HE.out, List.length_append]⟩
        clear HL hi
        go_wp2_with fail
        refine (ring_AllS.calls HI.out.ring HI.out.below.size).mono ?_
        rintro e w2 ⟨v10, rfl, ho10, hb2⟩
        have HI2 := Aside0.mk (HI.out.quiet hb2)
        obtain ⟨A10, c10, rfl, hr10, hc10⟩ := own_readsS (L := L) ho10 (by have := HIl.out; have := HOl.out; omega)
        have HR10 := Aside0.mk hr10
        clear ho10 hb2 hr10 HI
        go_wp2_with (at_builtin; refine print_append_row_of (W := w2) (w0 := w) sv (⟨#[]⟩ : ByteArray) w.heap.size rfl (.tmp 62) (.tmp 64) 45 9 (.string ⟨#[]⟩) 16 rfl Try.underlying45 infoS rfl (by decide) (fun _ => rfl) u9 O L A10 L.length c10 rfl rfl HI2.out.out HR10.out HI2.out.below HI2.out.below.size ?len ?_)
        case len => have := HIl.out; have := HOl.out; omega
        intro v1' w3 ho hB3 hg hat
        have HI3 := Aside0.mk (HI2.out.appOut (xs := I) (by rw [HE.out]; first | exact ho | (rw [List.length_append]; exact ho)) hB3 hg hat)
        obtain ⟨N, hN⟩ : ∃ N, N = L.length := ⟨_, rfl⟩
        have HN := Aside0.mk hN
        clear ho hB3 hg hat HI2 HR10 hc10 hN
        go_wp2_with fail
        refine (ring_LenS.calls HI3.out.ring).mono ?_
        rintro e w4 ⟨rfl, hb4⟩
        rw [← HN.out]
        have HI4 := Aside0.mk (HI3.out.quiet hb4)
        clear hb4 HI3
        obtain ⟨A8, c8, he8, hr8, hc8⟩ := own_readsS (L := I) HI4.out.inn (by have := HIl.out; omega)
        obtain ⟨A9, c9, he9, hr9, hc9⟩ := own_readsS (L := I) HI4.out.out (by have := HIl.out; omega)
        subst he8 he9
        clear hr8 hr9
        go_wp2_with fail
        refine (ring_LostS.calls HI4.out.ring).mono ?_
        rintro e w5 ⟨rfl, hb5⟩
        have HI5 := Aside0.mk (HI4.out.quiet hb5)
        clear hb5 HI4
        go_wp2_with fail
        refine (ring_ClearS.calls (w0 := w) HI5.out.ring HI5.out.below).mono ?_
        rintro e w6 ⟨rfl, hR, hB, hk⟩
        rw [← HN.out]
        have HI6 := Aside0.mk (HI5.out.turned hR hB hk)
        clear hR hB hk HI5
        go_wp2_with fail
        refine (ring_LenS.calls HI6.out.ring).mono ?_
        rintro e w7 ⟨rfl, hb7⟩
        have HI7 := Aside0.mk (HI6.out.quiet hb7)
        clear hb7 HI6
        go_wp2_with fail
        refine (ring_LostS.calls HI7.out.ring).mono ?_
        rintro e w8 ⟨rfl, hb8⟩
        have HI8 := Aside0.mk (HI7.out.quiet hb8)
        clear hb8 HI7
        go_wp2_with fail
        go_loopw [98] (fun v wr => ∃ (j : Nat), j ≤ I.length ∧ v = .int .i64 j ∧ Aside0 (OrdI w wr g b n (.slice A8 I.length c8) (.slice A9 I.length c9) I I [] lost)) (fun v _ => I.length - (intOf v).toNat)
        case atStart => exact ⟨0, by omega, rfl, HI8⟩
        case round =>
          clear HI8
          obtain ⟨j, hj, rfl, HI⟩ := hrel
          by_cases hji : j < I.length
          · have v2 : decide ((j : Int) < (I.length : Int)) = true := decide_eq_true (by omega)
            obtain ⟨A8', c8', he8, hr8, _⟩ := own_readsS (L := I) HI.out.inn (by have := HIl.out; omega)
            obtain ⟨A9', c9', he9, hr9, _⟩ := own_readsS (L := I) HI.out.out (by have := HIl.out; omega)
            obtain ⟨rfl, _⟩ : A8 = A8' ∧ True := by injection he8 with h; exact ⟨h, trivial⟩
            obtain ⟨rfl, _⟩ : A9 = A9' ∧ True := by injection he9 with h; exact ⟨h, trivial⟩
            obtain ⟨ad8, rfl, hx8⟩ := hr8.at_ (j : Int) (by omega) (by omega)
            obtain ⟨ad9, rfl, hx9⟩ := hr9.at_ (j : Int) (by omega) (by omega)
            rw [Int.toNat_natCast] at hx8 hx9
            obtain ⟨x, hxx⟩ : ∃ x, x = rdOf (⟨#[]⟩ : ByteArray) I (j : Int) := ⟨_, rfl⟩
            rw [← hxx] at hx8 hx9
            have hi3 := HIl.out
            clear hr8 hr9 he8 he9 hxx
            go_wp2_with fail
            refine start_ (n := 9) (S := fun w' => w'.cell? (ad8.add j) = some (.string x) ∧ w'.cell? (ad9.add j) = some (.string x)) (ds := []) #[false, false, false, false, false, false, false, false, false] (by kernel_rfl) rfl rfl ⟨hx8, hx9⟩ (fun hHeld => ?_)
            refine pure_ (i := 0) (N := some 101) (v := ?_) (a' := ?_) #[true, false, false, false, false, false, false, false, false] rfl rfl (by kernel_rfl) (fun _ _ _ h => h) (Or.inl ⟨by rfl, ?_⟩) ?_ ?_
            rotate_left
            · intro w'
              go_simp
              with_reducible rfl
            rotate_left
            · simp only [Act.put, List.setIfInBounds_toArray, List.set_cons_zero, List.set_cons_succ, i64_w, i32_w]
              rfl
            refine pure_ (i := 1) (N := some 102) (v := ?_) (a' := ?_) #[true, true, false, false, false, false, false, false, false] rfl rfl (by kernel_rfl) (fun _ _ _ h => h) (Or.inl ⟨by rfl, ?_⟩) ?_ ?_
            rotate_left
            · intro w'
              go_simp
              with_reducible rfl
            rotate_left
            · simp only [Act.put, List.setIfInBounds_toArray, List.set_cons_zero, List.set_cons_succ, i64_w, i32_w]
              rfl
            refine pure_ (i := 2) (N := some 103) (v := ?_) (a' := ?_) #[true, true, true, false, false, false, false, false, false] rfl rfl (by kernel_rfl) (fun _ _ _ h => h) (Or.inl ⟨by rfl, ?_⟩) ?_ ?_
            rotate_left
            · intro w'
              go_simp
              with_reducible rfl
            rotate_left
            · simp only [Act.put, List.setIfInBounds_toArray, List.set_cons_zero, List.set_cons_succ, i64_w, i32_w]
              rfl
            refine pure_ (i := 4) (N := some 105) (v := ?_) (a' := ?_) #[true, true, true, false, true, false, false, false, false] rfl rfl (by kernel_rfl) (fun _ _ _ h => h) (Or.inl ⟨by rfl, ?_⟩) ?_ ?_
            rotate_left
            · intro w'
              go_simp
              with_reducible rfl
            rotate_left
            · simp only [Act.put, List.setIfInBounds_toArray, List.set_cons_zero, List.set_cons_succ, i64_w, i32_w]
              rfl
            refine pure_ (i := 5) (N := some 106) (v := ?_) (a' := ?_) #[true, true, true, false, true, true, false, false, false] rfl rfl (by kernel_rfl) (fun _ _ _ h => h) (Or.inl ⟨by rfl, ?_⟩) ?_ ?_
            rotate_left
            · intro w'
              go_simp
              with_reducible rfl
            rotate_left
            · simp only [Act.put, List.setIfInBounds_toArray, List.set_cons_zero, List.set_cons_succ, i64_w, i32_w]
              rfl
            refine pure_ (i := 6) (N := some 107) (v := ?_) (a' := ?_) #[true, true, true, false, true, true, true, false, false] rfl rfl (by kernel_rfl) (fun _ _ _ h => h) (Or.inl ⟨by rfl, ?_⟩) ?_ ?_
            rotate_left
            · intro w'
              go_simp
              with_reducible rfl
            rotate_left
            · simp only [Act.put, List.setIfInBounds_toArray, List.set_cons_zero, List.set_cons_succ, i64_w, i32_w]
              rfl
            refine take_ (i := 3) (N := some 104) (v := ?_) (a' := ?_) #[true, true, true, true, true, true, true, false, false] rfl rfl (by kernel_rfl) (fun _ _ _ h => h) (Or.inl ⟨by rfl, ?_⟩) hHeld ?_ ?_
            rotate_left
            · rintro w' ⟨s0, s1⟩
              go_simp
              with_reducible rfl
            rotate_left
            · simp only [Act.put, List.setIfInBounds_toArray, List.set_cons_zero, List.set_cons_succ, i64_w, i32_w]
              rfl
            refine take_ (i := 7) (N := some 108) (v := ?_) (a' := ?_) #[true, true, true, true, true, true, true, true, false] rfl rfl (by kernel_rfl) (fun _ _ _ h => h) (Or.inl ⟨by rfl, ?_⟩) hHeld ?_ ?_
            rotate_left
            · rintro w' ⟨s0, s1⟩
              go_simp
              with_reducible rfl
            rotate_left
            · simp only [Act.put, List.setIfInBounds_toArray, List.set_cons_zero, List.set_cons_succ, i64_w, i32_w]
              rfl
            refine pure_ (i := 8) (N := some 109) (v := ?_) (a' := ?_) #[true, true, true, true, true, true, true, true, true] rfl rfl (by kernel_rfl) (fun _ _ _ h => h) (Or.inl ⟨by rfl, ?_⟩) ?_ ?_
            rotate_left
            · intro w'
              go_simp
              with_reducible rfl
            rotate_left
            · simp only [Act.put, List.setIfInBounds_toArray, List.set_cons_zero, List.set_cons_succ, i64_w, i32_w]
              rfl
            refine done_ (by kernel_rfl) ?_
            go_wp2_with fail
            go_roundw
            case rel => exact ⟨j + 1, by omega, by first | rfl | simp, ⟨HI.out.quiet (Below.refl _ _).drew⟩⟩
            case measure => simp [intOf]; omega
          · have v2 : decide ((j : Int) < (I.length : Int)) = false := decide_eq_false (by omega)
            go_wp2_with fail
            refine (alive11 _).mono ?_
            rintro e w9 ⟨rfl, hb9⟩
            go_wp2_with fail
            go_ret
            exact ⟨rfl, HI.out.below.trans (hb9.mono HI.out.below.size)⟩
  · by_cases z1 : l1.length > 300
    · have t1 : decide ((l1.length : Int) > 300) = true := decide_eq_true (by omega)
      clear hok
      go_enter Try.func5, Try.ntmps5
      go_wp2_with fail
      refine (alive11 w).mono ?_
      rintro e w6 ⟨rfl, hb6⟩
      go_wp2_with fail
      go_ret
      exact ⟨rfl, hb6⟩
    have t1 : decide ((l1.length : Int) > 300) = false := decide_eq_false (by omega)
    by_cases z2 : a2 < 0
    · have t2 : decide (a2 < 0) = true := decide_eq_true z2
      clear hok
      go_enter Try.func5, Try.ntmps5
      go_wp2_with fail
      refine (alive11 w).mono ?_
      rintro e w6 ⟨rfl, hb6⟩
      go_wp2_with fail
      go_ret
      exact ⟨rfl, hb6⟩
    have t2 : decide (a2 < 0) = false := decide_eq_false z2
    have t3 : decide (a2 > 5) = true := decide_eq_true (by omega)
    clear hok
    go_enter Try.func5, Try.ntmps5
    go_wp2_with fail
    refine (alive11 w).mono ?_
    rintro e w6 ⟨rfl, hb6⟩
    go_wp2_with fail
    go_ret
    exact ⟨rfl, hb6⟩
end Go.Proofs.Ytfdandgcnocklaa.P
