/- RingOwn's walk: what is told of a row is nobody's else. -/
import Derived.Test.YtfdandgcnocklaaGRingNil
import Derived.Test.YtfdandgcnocklaaPsignalboxref09Ints
namespace Go.Proofs.Ytfdandgcnocklaa.P
open Go.RowKit Go.Proofs.YtfdandgcnocklaaW.PrintWords Go.Proofs.YtfdandgcnocklaaW.PrintLast Go.Proofs.YtfdandgcnocklaaW.PrintMore
attribute [local go_sem] max2_int min2_int
set_option linter.unusedVariables false
set_option linter.unusedSimpArgs false

theorem ints_same : ∀ (d : Nat) (l : List Int) (i : Nat), l.length - i = d → i ≤ l.length → l.length ≤ 100000 → ∀ k, d < k → signalboxref09_Ints.l0 k l l (i : Int) = some true
  | 0, l, i, hd, hi, hb, k, hk => by
    obtain ⟨k, rfl⟩ : ∃ m, k = m + 1 := ⟨k - 1, by omega⟩
    simp only [signalboxref09_Ints.l0]
    rw [if_neg (by omega)]
  | d + 1, l, i, hd, hi, hb, k, hk => by
    obtain ⟨k, rfl⟩ : ∃ m, k = m + 1 := ⟨k - 1, by omega⟩
    simp only [signalboxref09_Ints.l0]
    rw [if_pos (by omega), if_pos (by omega), if_pos (by omega), if_pos trivial, wrap_succ i (by omega)]
    exact ints_same d l (i + 1) (by omega) (by omega) hb k (by omega)
theorem ints_refl (l : List Int) (hb : l.length ≤ 100000) : signalboxref09_Ints.f (l.length + 1) l l = some true := by
  unfold signalboxref09_Ints.f
  rw [if_pos rfl]
  exact ints_same l.length l 0 (by omega) (by omega) hb _ (by omega)
theorem own_kept {w w' : World} {base : Nat} {e : TypeId} {size n : Nat} {v : Value} {xs : List Value} {S : Nat → Prop} (h : w.ownsRow base e size v n xs) (hk : Kept w w' S) (hS : ∀ k, base ≤ k → ¬ S k) : w'.ownsRow base e size v n xs := by
  obtain ⟨h1, h2⟩ := h
  refine ⟨h1, ?_⟩
  rcases h2 with h2 | ⟨g, cap, cur, rfl, hg, hh, r⟩
  · exact .inl h2
  · exact .inr ⟨g, cap, cur, rfl, hg, blk_kept hh hk (hS g hg), r⟩
theorem own_readsI {w : World} {base : Nat} {v : Value} {L : List Int} {e : TypeId} (h : w.ownsRow base e 1 v L.length (valsOfI L)) (hb : L.length ≤ 100000) :
    ∃ A c, v = .slice A L.length c ∧ Kd.C (Kd.int .i64) w A L.length L ∧ L.length ≤ c := by
  obtain ⟨h1, h2⟩ := h
  rcases h2 with ⟨rfl, h0⟩ | ⟨g, cap, cur, rfl, hg, hh, hc, hm, hs, ht⟩
  · obtain rfl := List.eq_nil_of_length_eq_zero h0
    exact ⟨none, 0, rfl, Kd.C_nil _ _, Nat.le_refl _⟩
  · refine ⟨_, cap, rfl, Kd.C_of_reads (d := (0 : Int)) (h1 := fun _ => rfl) ⟨rfl, by omega, fun hn => ⟨_, rfl, fun j hj => ?_⟩⟩, hc⟩
    rw [addr_addI, blk_cell hh, Nat.zero_add, Array.getElem?_toList.symm]
    have e2 : (cur.toList.take (L.length * 1))[j]? = (valsOfI L)[j]? := by rw [ht]
    rw [List.getElem?_take_of_lt (by omega)] at e2
    rw [e2]
    unfold valsOfI
    rw [List.getElem?_map, List.getElem?_eq_getElem hj]
    simp [List.getD_eq_getElem?_getD, hj]
/-- A row of ints that may be written: where it has elements, its block. -/
def RowW (w : World) (A : Option Addr) (N o : Nat) : Prop := 0 < N → A = some ⟨o, 0, none⟩ ∧ ∃ cur : Array Value, w.heap[o]? = some (.cells cur 3 (0, 0)) ∧ N ≤ cur.size ∧ ∀ i, i < N → ∃ x : Int, cur[i]? = some (.int .i64 x)
theorem own_rowW {w : World} {base : Nat} {v : Value} {L : List Int} (h : w.ownsRow base 3 1 v L.length (valsOfI L)) : ∃ A c o, v = .slice A L.length c ∧ L.length ≤ c ∧ base ≤ o ∧ RowW w A L.length o := by
  obtain ⟨h1, h2⟩ := h
  rcases h2 with ⟨rfl, h0⟩ | ⟨g, cap, cur, rfl, hg, hh, hc, hm, hs, ht⟩
  · exact ⟨none, 0, base, by rw [h0], by omega, Nat.le_refl _, fun h => absurd h (by omega)⟩
  · refine ⟨_, cap, g, rfl, hc, hg, fun hn => ⟨rfl, cur, hh, by omega, fun i hi => ?_⟩⟩
    have e2 : (cur.toList.take (L.length * 1))[i]? = (valsOfI L)[i]? := by rw [ht]
    rw [List.getElem?_take_of_lt (by omega), Array.getElem?_toList] at e2
    rw [e2]
    unfold valsOfI
    rw [List.getElem?_map, List.getElem?_eq_getElem hi]
    exact ⟨_, rfl⟩
theorem RowW.set {w w' : World} {A : Option Addr} {N o j : Nat} {y : Int} (h : RowW w A N o) (hw : w' = w.setCell ⟨o, j, none⟩ (.int .i64 y)) : RowW w' A N o := by
  intro hn
  obtain ⟨e, cur, hh, hs, hx⟩ := h hn
  subst hw
  refine ⟨e, _, blk_set hh j _, by simpa using hs, fun i hi => ?_⟩
  by_cases hij : i = j
  · subst hij
    exact ⟨y, by rw [Array.getElem?_setIfInBounds_self_of_lt (by omega)]⟩
  · rw [Array.getElem?_setIfInBounds_ne (fun e => hij e.symm)]
    exact hx i hi

set_option maxHeartbeats 8000000 in
set_option maxRecDepth 100000 in
theorem ring_own_law (A0 : Option Addr) (c0 : Nat) (l0 : List Int) (a1 : Int) (w : World) (hr0 : Kd.C (Kd.int .i64) w A0 l0.length l0) (hc0 : l0.length ≤ c0) :
    Calls Try.prog 3 #[.slice A0 l0.length c0, .int .i64 a1] w fun e w' => e = .returned (.bool true) ∧ Below w.heap.size w w' := by
  have HR0 := Aside0.mk hr0
  have HC0 := Aside0.mk hc0
  clear hr0 hc0
  by_cases hl : l0.length > 50
  · have t1 : decide ((l0.length : Int) > 50) = true := decide_eq_true (by omega)
    clear hl
    go_enter Try.func3, Try.ntmps3
    go_wp2_with fail
    refine (alive11 w).mono ?_
    rintro e w1 ⟨rfl, hb⟩
    go_wp2_with fail
    go_ret
    exact ⟨rfl, hb⟩
  · have t1 : decide ((l0.length : Int) > 50) = false := decide_eq_false (by omega)
    go_enter Try.func3, Try.ntmps3
    go_wp2_with fail
    refine (ring_NewI.calls a1 w).mono ?_
    rintro e w1 ⟨g, b, rfl, hR, hB⟩
    have HR := Aside0.mk hR
    have HB := Aside0.mk hB
    obtain ⟨n, hn⟩ : ∃ n, n = clampN a1 := ⟨_, rfl⟩
    rw [← hn] at HR
    clear hR hB hn
    go_wp2_with fail
    go_loopw [19] (fun v wr => ∃ (i : Nat) (L : List Int) (lost : Int), i ≤ l0.length ∧ v = .int .i64 i ∧ Aside0 (L.length = min i n) ∧ Aside0 (RingI wr w.heap.size g b n L lost) ∧ Aside0 (Below w.heap.size w wr)) (fun v _ => l0.length - (intOf v).toNat)
    case atStart => exact ⟨0, [], 0, by omega, rfl, ⟨by simp⟩, HR, HB⟩
    case round =>
      clear HR HB
      obtain ⟨i, L, lost, hi, rfl, HL, HR, HB⟩ := hrel
      by_cases hil : i < l0.length
      · have v1 : decide ((i : Int) < (l0.length : Int)) = true := decide_eq_true (by omega)
        obtain ⟨ad, rfl, hx⟩ := Kd.at_int (Kd.C_below HR0.out HB.out) (i : Int) (by omega) (by omega)
        rw [Int.toNat_natCast] at hx
        go_wp2_with fail
        refine (ring_PutI.calls (w0 := w) _ HR.out HB.out).mono ?_
        rintro e w2 ⟨rfl, hR, hB, hk⟩
        have HR2 := Aside0.mk hR
        have HB2 := Aside0.mk hB
        clear hR hB hk
        go_wp2_with fail
        go_roundw
        case rel =>
          refine ⟨i + 1, _, _, by omega, by first | rfl | simp, ⟨?_⟩, HR2, HB2⟩
          have := HL.out
          split <;> (try rw [List.length_append, List.length_singleton]) <;> omega
        case measure => simp [intOf]; omega
      · have v1 : decide ((i : Int) < (l0.length : Int)) = false := decide_eq_false (by omega)
        obtain rfl : i = l0.length := by omega
        have HM1 : Aside0 (l0.length ≤ n → L.length = l0.length) := ⟨fun h => by have := HL.out; omega⟩
        have HM2 : Aside0 (¬ l0.length ≤ n → L.length = n) := ⟨fun h => by have := HL.out; omega⟩
        go_wp2_with fail
        refine (ring_AllI.calls HR.out HB.out.size).mono ?_
        rintro e w2 ⟨v8, rfl, ho8, hb2⟩
        have HR2 := Aside0.mk (HR.out.below hb2)
        have HB2 := Aside0.mk (HB.out.trans (hb2.mono HB.out.size))
        have hlt := HR.out.lt
        have hlt2 := Nat.lt_of_lt_of_le hlt.1 hb2.size
        have HO8 := Aside0.mk ho8
        have HS2 := Aside0.mk hb2.size
        clear ho8 hb2
        go_wp2_with fail
        refine (ring_AllI.calls HR2.out HB2.out.size).mono ?_
        rintro e w3 ⟨v9, rfl, ho9, hb3⟩
        have HR3 := Aside0.mk (HR2.out.below hb3)
        have HB3 := Aside0.mk (HB2.out.trans (hb3.mono HB2.out.size))
        obtain ⟨A8, c8, o8, rfl, hc8, hge8, hw8⟩ := own_rowW HO8.out
        have HW8 : Aside0 (RowW w3 A8 L.length o8) := ⟨fun hn => by
          obtain ⟨e, cur, hh, hs, hx⟩ := hw8 hn
          exact ⟨e, cur, (hb3.block o8 (blk_lt hh)).trans hh, hs, hx⟩⟩
        have HL8 : Aside0 (0 < L.length → o8 < w2.heap.size) := ⟨fun hn => by
          obtain ⟨e, cur, hh, hs, hx⟩ := hw8 hn
          exact blk_lt hh⟩
        have HO9 := Aside0.mk ho9
        have HG : Aside0 (¬ (0 < L.length ∧ o8 = g) ∧ ¬ (0 < L.length ∧ o8 = b)) := ⟨by omega⟩
        clear hlt hlt2 hw8 ho9 hb3
        obtain ⟨N, hN⟩ : ∃ N, N = L.length := ⟨_, rfl⟩
        have HN := Aside0.mk hN
        have hN9 : N ≤ 1000 := by have := HR.out.roomy; omega
        rw [← hN] at HW8 HL8 HG hc8
        simp only [← hN]
        clear hN
        go_wp2_with fail
        go_loopw [33] (fun v wr => ∃ (i : Nat), i ≤ N ∧ v = .int .i64 i ∧ Aside0 (RowW wr A8 N o8) ∧ Aside0 (Kept w3 wr (fun k => 0 < N ∧ o8 = k)) ∧ Aside0 (Below w.heap.size w wr)) (fun v _ => N - (intOf v).toNat)
        case atStart => exact ⟨0, by omega, rfl, HW8, ⟨Kept.refl _ _⟩, HB3⟩
        case round =>
          clear HW8
          obtain ⟨i, hi, rfl, HW, HK, HB4⟩ := hrel
          by_cases hil : i < N
          · have v1 : decide ((i : Int) < (N : Int)) = true := decide_eq_true (by omega)
            obtain ⟨rfl, cur, hh, hs, hx⟩ := HW.out (by omega)
            obtain ⟨x, hx⟩ := hx i hil
            have hcx : wr.cell? ⟨o8, i, none⟩ = some (.int .i64 x) := (blk_cell hh i).trans hx
            have hfx := blk_frozen hh i
            clear hx hh hs
            go_wp2_with fail
            go_roundw
            case rel => exact ⟨i + 1, by omega, by first | rfl | simp, ⟨HW.out.set rfl⟩, ⟨HK.out.setCell (p := ⟨o8, i, none⟩) (.inl ⟨by omega, rfl⟩) _⟩, ⟨HB4.out.setCell (p := ⟨o8, i, none⟩) (Nat.le_trans HB.out.size hge8) _⟩⟩
            case measure => simp [intOf]; omega
          · have v1 : decide ((i : Int) < (N : Int)) = false := decide_eq_false (by omega)
            have HR4 := Aside0.mk (HR3.out.kept HK.out HG.out.1 HG.out.2)
            have ho9 := own_kept HO9.out HK.out (fun k hk hh => by
              have := HL8.out hh.1
              omega)
            have hL1 : L.length ≤ 1000 := by have := HN.out; omega
            obtain ⟨A9, c9, rfl, hc9, hcc9⟩ := own_readsI ho9 (by omega)
            have HC9 := Aside0.mk hc9
            clear HW ho9 hc9
            go_wp2_with fail
            refine (ring_AllI.calls HR4.out HB4.out.size).mono ?_
            rintro e w5 ⟨v10, rfl, ho10, hb5⟩
            obtain ⟨A10, c10, rfl, hc10, hcc10⟩ := own_readsI ho10 (by omega)
            have HR5 := Aside0.mk (HR4.out.below hb5)
            have HB5 := Aside0.mk (HB4.out.trans (hb5.mono HB4.out.size))
            have HI := Aside0.mk (fun W (hd : Below w5.heap.size w5 W) => signalboxref09_Ints.calls (L.length + 1) A10 c10 L A9 c9 L true W (Kd.C_below hc10 hd) hcc10 (Kd.C_below (Kd.C_below HC9.out hb5) hd) hcc9 (ints_refl L (by omega)))
            clear ho10 hb5 hc10 HC9 HN
            go_wp2_with fail
            refine (HI.out _ (Below.refl _ _)).mono ?_
            rintro e w6 ⟨rfl, hd6⟩
            have HR6 := Aside0.mk (HR5.out.below hd6.below)
            have HB6 := Aside0.mk (HB5.out.trans (hd6.below.mono HB5.out.size))
            clear HI hd6
            go_wp2_with fail
            refine (ring_RoomI.calls HR6.out).mono ?_
            rintro e w7 ⟨rfl, hb7⟩
            have HB7 := Aside0.mk (HB6.out.trans (hb7.mono HB6.out.size))
            clear hb7
            by_cases hmn : l0.length ≤ n
            · have u1 : ((L.length : Int) == (l0.length : Int)) = true := beq_iff_eq.2 (by have := HM1.out hmn; omega)
              have u2 : (l0.length : Int) ≤ (n : Int) := by omega
              go_wp2_with fail
              refine (alive11 w7).mono ?_
              rintro e w8 ⟨rfl, hb8⟩
              go_wp2_with fail
              go_ret
              exact ⟨rfl, HB7.out.trans (hb8.mono HB7.out.size)⟩
            · have u1 : ((L.length : Int) == (n : Int)) = true := beq_iff_eq.2 (by have := HM2.out hmn; omega)
              have u2 : (n : Int) < (l0.length : Int) := by omega
              go_wp2_with fail
              refine (alive11 w7).mono ?_
              rintro e w8 ⟨rfl, hb8⟩
              go_wp2_with fail
              go_ret
              exact ⟨rfl, HB7.out.trans (hb8.mono HB7.out.size)⟩
end Go.Proofs.Ytfdandgcnocklaa.P
