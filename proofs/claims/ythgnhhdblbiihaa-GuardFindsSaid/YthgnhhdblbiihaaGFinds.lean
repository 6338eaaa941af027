/- GuardFinds's walk. -/
import Derived.Test.YthgnhhdblbiihaaGBurst
import Derived.Test.YthgnhhdblbiihaaGTreeAll
import Derived.LoopTactic
namespace Go.Proofs.Ythgnhhdblbiihaa.P
open Go.RowKit Go.Proofs.YthgnhhdblbiihaaW.PrintWords Go.Proofs.YthgnhhdblbiihaaW.PrintLast Go.Proofs.YthgnhhdblbiihaaW.PrintMore
set_option linter.unusedVariables false
set_option linter.unusedSimpArgs false

def natsL (l : List UInt8) : List Int := l.map fun b => (b.toNat : Int)
theorem natsL_length (l : List UInt8) : (natsL l).length = l.length := by simp [natsL]
theorem natsL_bytes (s : ByteArray) : bytesOf s = natsL s.data.toList := rfl
theorem natsL_getD (l : List UInt8) (i : Nat) : (natsL l).getD i 0 = ((l.getD i 0).toNat : Int) := by
  unfold natsL
  simp only [List.getD_eq_getElem?_getD, List.getElem?_map]
  cases l[i]? <;> rfl
theorem natsL_set (l : List UInt8) (i : Nat) (x : UInt8) : (natsL l).set i (x.toNat : Int) = natsL (l.set i x) := by simp [natsL]
theorem natsL_str (l : List UInt8) : strOfNums (natsL l) = ⟨l.toArray⟩ := by
  apply ba_ext
  rw [strOfNums_data, natsL, List.map_map]
  have : ((fun n : Int => UInt8.ofNat n.toNat) ∘ fun b : UInt8 => (b.toNat : Int)) = id := by
    funext b
    simp
  rw [this, List.map_id]
theorem bits_xor8 (x y : UInt8) : bits .xor .u8 (x.toNat : Int) (y.toNat : Int) = ((x ^^^ y).toNat : Int) := by
  show IntKind.u8.wrap ((BitVec.ofInt 8 (x.toNat : Int) ^^^ BitVec.ofInt 8 (y.toNat : Int)).toNat : Int) = _
  have hx := x.toNat_lt
  have hy := y.toNat_lt
  have e : ∀ n : Nat, n < 2 ^ 8 → (BitVec.ofInt 8 (n : Int)).toNat = n := fun n hn => by rw [BitVec.ofInt_natCast, BitVec.toNat_ofNat]; exact Nat.mod_eq_of_lt hn
  rw [BitVec.toNat_xor, e _ hx, e _ hy, UInt8.toNat_xor]
  have : x.toNat ^^^ y.toNat < 2 ^ 8 := Nat.xor_lt_two_pow hx hy
  generalize x.toNat ^^^ y.toNat = z at *
  rw [IntKind.wrap_u8]
  omega
theorem seal_id {id c : Int} {m s : ByteArray} (h : sealP id c m = (s, 0)) : s.size ≤ 64 ∧ 2 ≤ s.size := by
  unfold sealP at h
  split at h
  · have e := congrArg Prod.fst h
    dsimp only at e
    rw [← e, ByteArray.size_append, ByteArray.size_append, byte1_size, byte1_size]
    omega
  · have := congrArg Prod.snd h
    exact absurd (show (2 : Int) = 0 from this) (by decide)

set_option maxHeartbeats 8000000 in
set_option maxRecDepth 100000 in
theorem finds_law (id c : Int) (m : ByteArray) (a t : Int) (hm : m.size ≤ 140737488351232) (w : World) : Calls Try.prog 5 #[.int .i64 id, .int .i64 c, .string m, .int .i64 a, .int .i64 t] w fun e w' => e = .returned (.bool true) ∧ Below w.heap.size w w' := by
  have HA := Aside0.mk (alive40 0)
  obtain ⟨s, e0, hse⟩ : ∃ s e, sealP id c m = (s, e) := ⟨_, _, rfl⟩
  have HS := Aside0.mk (show guard_Seal.f 1 id c m = some (s, e0) by rw [seal_f 0, hse])
  by_cases h0 : e0 = 0
  · subst h0
    have hz := seal_id hse
    have HSe := Aside0.mk hse
    clear hse
    have u0 : ((0 : Int) != 0) = false := rfl
    by_cases hok : 0 ≤ a ∧ a ≤ 8 * s.size - 8 ∧ 1 ≤ t ∧ t ≤ 255
    · obtain ⟨q1, q2, q3, q4⟩ := hok
      obtain ⟨A, rfl⟩ := Int.eq_ofNat_of_zero_le q1
      obtain ⟨T, rfl⟩ := Int.eq_ofNat_of_zero_le (show 0 ≤ t by omega)
      have t0 : decide ((A : Int) < 0) = false := decide_eq_false (by omega)
      have t1 : decide ((A : Int) > wrap64 (wrap64 (8 * (s.size : Int)) - 8)) = false := decide_eq_false (by rw [w64_small (8 * (s.size : Int)) (by omega) (by omega), w64_small _ (by omega) (by omega)]; omega)
      have t2 : decide ((T : Int) < 1) = false := decide_eq_false (by omega)
      have t3 : decide ((T : Int) > 255) = false := decide_eq_false (by omega)
      have kb := fun W' => print_bytes (P := Try.prog) 9 29 5 Try.underlying9 Try.underlying29 Try.underlying5 s W'
      go_enter Try.func5, Try.ntmps5
      go_wp2_with fail
      refine (guard_Seal.calls 1 id c m s 0 w HS.out).mono ?_
      rintro e w1 ⟨rfl, hb1⟩
      go_wp2_with fail
      have HB3 : Aside0 (Below w.heap.size w (Lib.bytesWorld w1 5 s)) := ⟨bytes_below hb1 hb1.size 5 s⟩
      have HR3 : Aside0 (RowB (Lib.bytesWorld w1 5 s) w.heap.size w1.heap.size s.size (grownCap w1 s.size 0 5) (natsL s.data.toList)) := ⟨by rw [← natsL_bytes]; exact RowB.of_bytes w1 5 s hb1.size (by omega)⟩
      generalize Lib.bytesWorld w1 5 s = w3 at *
      generalize grownCap w1 s.size 0 5 = cap at *
      generalize w1.heap.size = g at *
      clear hb1 kb
      go_loopw [50] (fun v wr => ∃ (i : Nat) (l : List UInt8), i ≤ 8 ∧ v = .int .i64 i ∧ Aside0 (Turned A T i s.data.toList l) ∧ Aside0 (RowB wr w.heap.size g s.size cap (natsL l)) ∧ Aside0 (Below w.heap.size w wr)) (fun v _ => 8 - (intOf v).toNat)
      case atStart => exact ⟨0, _, by omega, rfl, ⟨Turned.zero _ _ _⟩, HR3, HB3⟩
      case round =>
        clear HR3 HB3
        obtain ⟨i, l, hi, rfl, HT, HR, HB⟩ := hrel
        by_cases hil : i < 8
        · have v1 : decide ((i : Int) < 8) = true := decide_eq_true (by omega)
          have v2 : (bits .and .i64 ((T : Int) / 2 ^ (7 - i)) 1 == 1) = T.testBit (7 - i) := by
            have e : (T : Int) / 2 ^ (7 - i) = ((T / 2 ^ (7 - i) : Nat) : Int) := by push_cast; rfl
            have hq : T / 2 ^ (7 - i) ≤ T := Nat.div_le_self _ _
            rw [e, bits_and_one _ (by omega), Nat.testBit_eq_decide_div_mod_eq]
            generalize T / 2 ^ (7 - i) = q
            by_cases h : q % 2 = 1
            · rw [h]; rfl
            · rw [show q % 2 = 0 from by omega]; rfl
          cases hb : T.testBit (7 - i) with
          | true =>
            rw [hb] at v2
            have HBt := Aside0.mk hb
            clear hb
            obtain ⟨J, hJ⟩ : ∃ J : Nat, J = A + i := ⟨_, rfl⟩
            obtain ⟨M, hM⟩ : ∃ M : Nat, M = J / 8 := ⟨_, rfl⟩
            obtain ⟨R, hR⟩ : ∃ R : Nat, R = J % 8 := ⟨_, rfl⟩
            have HW : IntKind.i64.wrap ((A : Int) + (i : Int)) = (J : Int) := by rw [IntKind.wrap_i64]; omega
            have HM : IntKind.i64.wrap (((A : Int) + (i : Int)).tdiv 8) = (M : Int) := by rw [Int.tdiv_eq_ediv_of_nonneg (by omega), IntKind.wrap_i64]; omega
            have HR8 : ((A : Int) + (i : Int)).tmod 8 = (R : Int) := by rw [Int.tmod_eq_emod_of_nonneg (by omega)]; omega
            have HSh : ∀ w', Sem.run Try.prog (Op.shift BinOp.shr .u8 128 .i64 (R : Int)) w' = .ok (.int .u8 ((maskB R).toNat : Int)) w' := by
              intro w'
              clear HW HM HR8
              obtain rfl | rfl | rfl | rfl | rfl | rfl | rfl | rfl : R = 0 ∨ R = 1 ∨ R = 2 ∨ R = 3 ∨ R = 4 ∨ R = 5 ∨ R = 6 ∨ R = 7 := by omega
              all_goals rfl
            have HR7 : Aside0 ((128 : Int) / 2 ^ min R 8 = ((maskB R).toNat : Int)) := ⟨by
              clear HW HM HR8 HSh
              obtain rfl | rfl | rfl | rfl | rfl | rfl | rfl | rfl : R = 0 ∨ R = 1 ∨ R = 2 ∨ R = 3 ∨ R = 4 ∨ R = 5 ∨ R = 6 ∨ R = 7 := by omega
              all_goals rfl⟩
            obtain ⟨X, hX⟩ : ∃ X, X = l.getD M 0 := ⟨_, rfl⟩
            have HX : bits .xor .u8 (X.toNat : Int) ((maskB R).toNat : Int) = ((X ^^^ maskB R).toNat : Int) := bits_xor8 X (maskB R)
            have hc := HR.out.cell M (by omega)
            rw [natsL_getD, ← hX] at hc
            have hfz := (HR.out.free M (by have := HR.out.hcap; omega)).2
            have HT8 : Aside0 (Turned A T (i + 1) s.data.toList (turnL A T i l)) := ⟨Turned.step _ _ _ _ _ (by omega) (by have := ba_length s; omega) HT.out⟩
            have HR9 : Aside0 (RowB (wr.drew.setCell ⟨g, M, none⟩ (.int .u8 ((X ^^^ maskB R).toNat : Int))) w.heap.size g s.size cap (natsL (turnL A T i l))) := ⟨by
              rw [turnL, if_pos HBt.out, ← natsL_set, ← hJ, ← hM, ← hR, ← hX]
              exact HR.out.drew.set M (by omega) _⟩
            have HB8 : Aside0 (Below w.heap.size w (wr.drew.setCell ⟨g, M, none⟩ (.int .u8 ((X ^^^ maskB R).toNat : Int)))) := ⟨HB.out.drew.setCell HR.out.hle _⟩
            clear HT HB hX
            have F1 := Aside0.mk (show IntKind.i64.wrap ((A : Int) + (i : Int)) = (A : Int) + (i : Int) by rw [IntKind.wrap_i64]; omega)
            have F2 := Aside0.mk (show ((A : Int) + (i : Int)).tdiv 8 = (M : Int) by rw [Int.tdiv_eq_ediv_of_nonneg (by omega)]; omega)
            have F3 := Aside0.mk (show ((A : Int) + (i : Int)) / 8 = (M : Int) by omega)
            have F4 := Aside0.mk (show IntKind.i64.wrap (M : Int) = (M : Int) by rw [IntKind.wrap_i64]; omega)
            have F5 := Aside0.mk (show ((A : Int) + (i : Int)).tmod 8 = (R : Int) by rw [Int.tmod_eq_emod_of_nonneg (by omega)]; omega)
            have F6 := Aside0.mk (show ((A : Int) + (i : Int)) % 8 = (R : Int) by omega)
            have F7 := Aside0.mk (show 0 ≤ (M : Int) ∧ (M : Int) < (s.size : Int) by omega)
            have F8 := Aside0.mk (show M < s.size by omega)
            clear hJ hM hR HW HM HR8
            have HSh := Aside0.mk HSh
            have HMs : Aside0 (bits BinOp.xor IntKind.u8 (X.toNat : Int) (128 / 2 ^ min R 8) = ((X ^^^ maskB R).toNat : Int)) := ⟨by rw [← HX, HR7.out]⟩
            have HX := Aside0.mk HX
            go_wp2_with fail
            refine region_tree (.pure 0 <| .pure 1 <| .pure 2 <| .pure 3 <| .pure 4 <| .pure 5 <| .pure 7 <| .pure 8 <| .pure 9 <| .pure 10 <| .pure 11 <| .one 6 <| .pure 12 <| .pure 13 <| .one 14 <| .done) (by kernel_rfl) (by kernel_rfl) (fun d _ _ _ _ h => by cases d <;> exact h) ?_
            iterate 11
              apply tree_pure rfl rfl rfl
              · intro w'; go_simp; try simp only [F1.out, F2.out, F3.out, F4.out, F5.out, F6.out, if_pos F7.out, if_pos F8.out, Int.toNat_natCast, HSh.out, Result.andThen]
                with_reducible rfl
              · simp only [Act.put, List.setIfInBounds_toArray, List.set_cons_zero, List.set_cons_succ]; rfl
            have hcd : wr.drew.cell? ⟨g, M, none⟩ = some (.int .u8 (X.toNat : Int)) := hc
            have hfd : wr.drew.frozen? ⟨g, M, none⟩ = false := hfz
            refine tree_one rfl ?_
            go_wp2
            refine tree_on ?_
            iterate 2
              apply tree_pure rfl rfl rfl
              · intro w'; go_simp; try simp only [F1.out, F2.out, F3.out, F4.out, F5.out, F6.out, if_pos F7.out, if_pos F8.out, Int.toNat_natCast, HX.out, Result.andThen]
                with_reducible rfl
              · simp only [Act.put, List.setIfInBounds_toArray, List.set_cons_zero, List.set_cons_succ]; rfl
            refine tree_one rfl ?_
            go_wp2
            refine tree_on (tree_done ?_)
            go_wp2_with fail
            go_roundw
            case rel =>
              refine ⟨i + 1, turnL A T i l, by omega, by first | rfl | simp, HT8, ?_, ?_⟩
              · rw [HMs.out]; exact HR9
              · rw [HMs.out]; exact HB8
            case measure => simp [intOf]; omega
          | false =>
            rw [hb] at v2
            have HBt := Aside0.mk hb
            clear hb
            go_wp2_with fail
            go_roundw
            case rel =>
              refine ⟨i + 1, l, by omega, by first | rfl | simp, ⟨?_⟩, HR, HB⟩
              have h8 := Turned.step _ _ _ _ _ (by omega) (by have := ba_length s; omega) HT.out
              rw [turnL, HBt.out] at h8
              simpa using h8
            case measure => simp [intOf]; omega
        · have v1 : decide ((i : Int) < 8) = false := decide_eq_false (by omega)
          obtain rfl : i = 8 := by omega
          have hd0 := HR.out.drop_reads 0 (by omega) (by omega)
          rw [List.drop_zero, Nat.sub_zero] at hd0
          have hcv := string_of_reads (P := Try.prog) (c := cap) Try.underlying29 Try.underlying5 Try.underlying9 hd0
          rw [natsL_str] at hcv
          have HO := Aside0.mk (turned_shut id c m s HSe.out A T (by omega) (by omega) (by omega) l (by have := HT.out; simpa using this))
          have hlz : (⟨l.toArray⟩ : ByteArray).size = s.size := by rw [← ba_length]; exact HT.out.1.trans (ba_length s)
          have HO2 := Aside0.mk (show guard_Open.f 2 id ⟨l.toArray⟩ = some (0, ⟨#[]⟩, 3) by rw [open_f 0 id _ (by rw [hlz]; omega), HO.out])
          clear HT HO hlz
          go_wp2_with fail
          refine (guard_Open.calls 2 id _ 0 ⟨#[]⟩ 3 wr HO2.out).mono ?_
          rintro e w5 ⟨rfl, hb5⟩
          have HB5 := Aside0.mk (HB.out.trans (hb5.mono HB.out.size))
          have ne : (([] : List UInt8) == []) = true := rfl
          clear hb5 HB hcv hd0
          go_wp2_with fail
          refine (signalboxlaw40_alive.calls 10 true w5 HA.out).mono ?_
          rintro e w6 ⟨rfl, hb6⟩
          go_wp2_with fail
          go_ret
          exact ⟨rfl, HB5.out.trans (hb6.mono HB5.out.size)⟩
    · clear HSe
      by_cases z0 : a < 0
      · have t0 : decide (a < 0) = true := decide_eq_true z0
        try clear hse
        try clear hok
        try clear h0
        go_enter Try.func5, Try.ntmps5
        go_wp2_with fail
        refine (guard_Seal.calls 1 id c m s _ w HS.out).mono ?_
        rintro e w1 ⟨rfl, hb1⟩
        go_wp2_with fail
        refine (signalboxlaw40_alive.calls 10 true w1 HA.out).mono ?_
        rintro e w6 ⟨rfl, hb6⟩
        go_wp2_with fail
        go_ret
        exact ⟨rfl, hb1.trans (hb6.mono hb1.size)⟩
      have t0 : decide (a < 0) = false := decide_eq_false z0
      by_cases z1 : a > 8 * s.size - 8
      · have t1 : decide (a > wrap64 (wrap64 (8 * (s.size : Int)) - 8)) = true := decide_eq_true (by rw [w64_small (8 * (s.size : Int)) (by omega) (by omega), w64_small _ (by omega) (by omega)]; omega)
        try clear hse
        try clear hok
        try clear h0
        go_enter Try.func5, Try.ntmps5
        go_wp2_with fail
        refine (guard_Seal.calls 1 id c m s _ w HS.out).mono ?_
        rintro e w1 ⟨rfl, hb1⟩
        go_wp2_with fail
        refine (signalboxlaw40_alive.calls 10 true w1 HA.out).mono ?_
        rintro e w6 ⟨rfl, hb6⟩
        go_wp2_with fail
        go_ret
        exact ⟨rfl, hb1.trans (hb6.mono hb1.size)⟩
      have t1 : decide (a > wrap64 (wrap64 (8 * (s.size : Int)) - 8)) = false := decide_eq_false (by rw [w64_small (8 * (s.size : Int)) (by omega) (by omega), w64_small _ (by omega) (by omega)]; omega)
      by_cases z2 : t < 1
      · have t2 : decide (t < 1) = true := decide_eq_true z2
        try clear hse
        try clear hok
        try clear h0
        go_enter Try.func5, Try.ntmps5
        go_wp2_with fail
        refine (guard_Seal.calls 1 id c m s _ w HS.out).mono ?_
        rintro e w1 ⟨rfl, hb1⟩
        go_wp2_with fail
        refine (signalboxlaw40_alive.calls 10 true w1 HA.out).mono ?_
        rintro e w6 ⟨rfl, hb6⟩
        go_wp2_with fail
        go_ret
        exact ⟨rfl, hb1.trans (hb6.mono hb1.size)⟩
      have t2 : decide (t < 1) = false := decide_eq_false z2
      have t3 : decide (t > 255) = true := decide_eq_true (by omega)
      try clear hse
      try clear hok
      try clear h0
      go_enter Try.func5, Try.ntmps5
      go_wp2_with fail
      refine (guard_Seal.calls 1 id c m s _ w HS.out).mono ?_
      rintro e w1 ⟨rfl, hb1⟩
      go_wp2_with fail
      refine (signalboxlaw40_alive.calls 10 true w1 HA.out).mono ?_
      rintro e w6 ⟨rfl, hb6⟩
      go_wp2_with fail
      go_ret
      exact ⟨rfl, hb1.trans (hb6.mono hb1.size)⟩
  · have u0 : (e0 != 0) = true := by simpa using h0
    try clear hse
    try clear hok
    try clear h0
    go_enter Try.func5, Try.ntmps5
    go_wp2_with fail
    refine (guard_Seal.calls 1 id c m s _ w HS.out).mono ?_
    rintro e w1 ⟨rfl, hb1⟩
    go_wp2_with fail
    refine (signalboxlaw40_alive.calls 10 true w1 HA.out).mono ?_
    rintro e w6 ⟨rfl, hb6⟩
    go_wp2_with fail
    go_ret
    exact ⟨rfl, hb1.trans (hb6.mono hb1.size)⟩
end Go.Proofs.Ythgnhhdblbiihaa.P
