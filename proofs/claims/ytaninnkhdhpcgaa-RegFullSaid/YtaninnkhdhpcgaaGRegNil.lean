/- A register that is none; the chapter's example; no conditions. -/
import Derived.Test.YtaninnkhdhpcgaaGRegFind2
import Derived.Test.YtaninnkhdhpcgaaGRegWho
import Derived.Test.YtaninnkhdhpcgaaGRegT
import Derived.Test.YtaninnkhdhpcgaaPsignalboxlaw18exact
namespace Go.Proofs.Ytaninnkhdhpcgaa.P
open Go.RowKit Go.Proofs.YtaninnkhdhpcgaaW.PrintWords Go.Proofs.YtaninnkhdhpcgaaW.PrintLast Go.Proofs.YtaninnkhdhpcgaaW.PrintMore
set_option linter.unusedVariables false
set_option linter.unusedSimpArgs false

theorem gf (g : Nat) (r : RGv) : Framed (IsReg g r) := ⟨fun h ht hd => IsReg.turn h ht hd, fun h => IsReg.lt h⟩
def rg0 : RGv := ⟨0, []⟩
section
variable {w0 w : World} {g : Nat} {r : RGv} {Q : World → (Nat → Prop) → Prop} {X : Nat → Prop}
theorem two_New (hQ : Framed Q) (H : Two w0 w Nought Q X) :
    Calls Try.prog 8 #[] w fun e w' => ∃ g, e = .returned (.pointer (some ⟨g, 0, none⟩)) ∧ Two w0 w' (IsReg g rg0) Q X ∧ Below w.heap.size w w' := by
  refine (reg_New w).mono ?_
  rintro e w' ⟨g, S, rfl, hc, hs, hB⟩
  exact ⟨g, rfl, H.come hQ (P := IsReg g rg0) hc hs hB, hB⟩
theorem two_Add (hQ : Framed Q) (H : Two w0 w (IsReg g r) Q X) (owner : Int) (f : Flt) (hw : (Lit.int .u32 f.f0).wf = true) (ok : ROk r) (hl : r.L.length < 51200) (hs : r.since < 1125899906842624) :
    Calls Try.prog 9 #[.pointer (some ⟨g, 0, none⟩), .int .i64 owner, fltV f] w fun e w' => e = .returned (.int .i64 0) ∧ Two w0 w' (IsReg g (addR r owner f)) Q X ∧ KeepX X w w' :=
  H.own1 hQ (gf _ _) (fun S hS => reg_Add owner f hw ok hl hs hS)
theorem two_Len (H : Two w0 w (IsReg g r) Q X) :
    Calls Try.prog 11 #[.pointer (some ⟨g, 0, none⟩)] w fun e w' => e = .returned (.int .i64 r.L.length) ∧ w' = w := by
  obtain ⟨S, hS⟩ := H.get1
  exact reg_Len hS
end
/-! ### the chapter's frame -/
def fx : Flt := ⟨5, 4294967295, false⟩
def f0 : Flt := ⟨0, 0, false⟩
def rg3 : RGv := addR (addR (addR rg0 1 fx) 2 f0) 1 f0
theorem r5 : frame_Right.f 100 5 0 0 ⟨#[]⟩ = some 0 := by decide +kernel
theorem w5 : frame_Word.f 100 5 0 0 ⟨#[]⟩ = some 5 := by decide +kernel
def mt5 (f : Flt) : Bool := ((Go.bits .and .u32 (Go.bits .xor .u32 5 f.f0) f.f1) == 0) != f.f2
theorem m5 (f : Flt) : match_Match.f 100 f.f0 f.f1 f.f2 5 0 0 ⟨#[]⟩ = some (mt5 f) := by
  unfold match_Match.f
  rw [r5]
  show (if (0 : Int) = 0 then (if (Go.bits .and .i64 0 4) = 0 then ((frame_Word.f 100 5 0 0 ⟨#[]⟩).bind fun t132 => ((match_Hit.f f.f0 f.f1 f.f2 t132).bind fun t133 => (some t133))) else (some false)) else (some false)) = _
  rw [if_pos rfl, if_pos (by decide +kernel), w5]
  rfl
theorem ok3 : ROk rg3 := ((ROk.r0.add 1 fx (by decide) (by decide)).add 2 f0 (by decide) (by decide)).add 1 f0 (by decide) (by decide)
theorem hits3 : (hitsL 5 mt5 rg3.L).map (·.owner) = [1, 2, 1] := by decide +kernel
theorem finds3 {w : World} {g : Nat} {S : Nat → Prop} (h : IsReg g rg3 w S) : Finds w (.pointer (some ⟨g, 0, none⟩)) 5 0 0 ⟨#[]⟩ [1, 2, 1] := fun W hb => by
  have := reg_Find (k := 100) ok3 r5 (by decide +kernel) w5 (by decide) m5 (h.turn (Turn.of_below hb (fun _ => False)) (fun _ _ x => x))
  rw [hits3] at this
  exact this
theorem C_cells (w : World) (xs : List Int) (t : TypeId) (hl : xs.length ≤ 1000) : Kd.C (Kd.int .i64) (w.alloc (.cells (xs.map (Value.int .i64)).toArray t (0, 0))) (some ⟨w.heap.size, 0, none⟩) xs.length xs := by
  refine Kd.C_of_reads (d := (0 : Int)) (h1 := fun _ => rfl) ⟨rfl, by omega, fun hn => ⟨_, rfl, fun j hj => ?_⟩⟩
  have h1 := blk_cell (blk_new w (.cells (xs.map (Value.int .i64)).toArray t (0, 0))) j
  have e : (⟨w.heap.size, 0, none⟩ : Addr).add j = ⟨w.heap.size, j, none⟩ := by unfold Addr.add; split <;> simp_all
  rw [e, h1]
  simp [List.getD_eq_getElem?_getD, List.getElem?_eq_getElem hj]
set_option maxHeartbeats 8000000 in
set_option maxRecDepth 100000 in
theorem alive18 (w : World) : Calls Try.prog 7 #[] w fun e w' => e = .returned (.bool true) ∧ Below w.heap.size w w' := by
  have HX := Aside0.mk (fun W => signalboxlaw18_exact.calls 5 5 4294967295 false W rfl)
  have HA1 := Aside0.mk (fun (W : World) g X (H : Two w W (IsReg g rg0) Nought X) => two_Add nought_framed H 1 fx (by decide) ROk.r0 (by decide) (by decide))
  have HA2 := Aside0.mk (fun (W : World) g X (H : Two w W (IsReg g (addR rg0 1 fx)) Nought X) => two_Add nought_framed H 2 f0 (by decide) (ROk.r0.add 1 fx (by decide) (by decide)) (by decide) (by decide))
  have HA3 := Aside0.mk (fun (W : World) g X (H : Two w W (IsReg g (addR (addR rg0 1 fx) 2 f0)) Nought X) => two_Add nought_framed H 1 f0 (by decide) ((ROk.r0.add 1 fx (by decide) (by decide)).add 2 f0 (by decide) (by decide)) (by decide) (by decide))
  have hu := Try.underlying24
  have hu2 := Try.underlying36
  go_enter Try.func7, Try.ntmps7
  go_wp2_with fail
  refine (two_New nought_framed (Two.start w)).mono ?_
  rintro e w1 ⟨g, rfl, H, _⟩
  have H1 := Aside0.mk H
  clear H
  go_wp2_with fail
  refine (HX.out _).mono ?_
  rintro e w2 ⟨rfl, hb⟩
  have H2 := Aside0.mk (H1.out.quiet (gf _ _) nought_framed hb)
  clear hb H1
  go_wp2_with fail
  refine (HA1.out _ g _ H2.out).mono ?_
  rintro e w3 ⟨rfl, H, _⟩
  have H3 := Aside0.mk H
  clear H H2
  go_wp2_with fail
  refine (HA2.out _ g _ H3.out).mono ?_
  rintro e w4 ⟨rfl, H, _⟩
  have H4 := Aside0.mk H
  clear H H3
  go_wp2_with fail
  refine (HA3.out _ g _ H4.out).mono ?_
  rintro e w5 ⟨rfl, H, _⟩
  have H5 := Aside0.mk (show Two w w5 (IsReg g rg3) Nought _ from H)
  clear H H4
  go_upto_region 4 with (fail)
  obtain ⟨D, hD⟩ : ∃ D, D = w5.heap.size := ⟨_, rfl⟩
  rw [← hD]
  refine wp_world (fun W => Two w W (IsReg g rg3) Nought (fun k => k = D) ∧ W.heap[D]? = some (.cells #[.int .i64 5, .int .i64 0, .int .i64 0, .string ⟨#[]⟩] 36 (0, 0))) ⟨H5.out.box (gf _ _) nought_framed _ hD (fun k hk => .inr hk), by rw [hD]; exact blk_new _ _⟩ ?_
  rintro W6 ⟨H, hd⟩
  have H6 := Aside0.mk H
  have HD6 := Aside0.mk hd
  have m0 : W6.cell? ⟨D, 0, none⟩ = some (.int .i64 5) := (blk_cell hd 0).trans rfl
  have m1 : W6.cell? ⟨D, 1, none⟩ = some (.int .i64 0) := (blk_cell hd 1).trans rfl
  have m2 : W6.cell? ⟨D, 2, none⟩ = some (.int .i64 0) := (blk_cell hd 2).trans rfl
  have m3 : W6.cell? ⟨D, 3, none⟩ = some (.string ⟨#[]⟩) := (blk_cell hd 3).trans rfl
  obtain ⟨S6, hS6⟩ := H.get1
  have HF6 := Aside0.mk (finds3 hS6 W6 (Below.refl _ _))
  clear H hd hD H5 hS6
  go_wp2_with fail
  refine HF6.out.mono ?_
  rintro e w7 ⟨v7, rfl, hx, _, hb⟩
  obtain ⟨A7, c7, rfl, hc7, hC7⟩ := (show RowX (Kd.int .i64) 3 w7 v7 [1, 2, 1] from hx).reads
  have H7 := Aside0.mk (H6.out.quiet (gf _ _) nought_framed hb)
  have HD7 := Aside0.mk ((hb.block D (blk_lt HD6.out)).trans HD6.out)
  have HI7 := Aside0.mk (ints_calls (l := [1, 2, 1]) (Kd.C_below hC7 (below_alloc (Below.refl _ _) (.cells #[.int .i64 1, .int .i64 2, .int .i64 1] 3 (0, 0)))) hc7 (C_cells w7 [1, 2, 1] 3 (by decide)) (c1 := 3) (by decide) (by decide))
  have HB7 := Aside0.mk (Two.quiet (gf _ _) nought_framed H7.out (below_alloc (Below.refl _ _) (.cells #[.int .i64 1, .int .i64 2, .int .i64 1] 3 (0, 0))))
  have HE7 := Aside0.mk (((Turn.refl (fun _ => False) w7).alloc (.cells #[.int .i64 1, .int .i64 2, .int .i64 1] 3 (0, 0))).blk HD7.out (fun x => x))
  clear hx hb hc7 hC7 HF6 H6 HD6 m0 m1 m2 m3
  go_wp2_with fail
  refine HI7.out.mono ?_
  rintro e w8 ⟨rfl, hb⟩
  have H8 := Aside0.mk (HB7.out.quiet (gf _ _) nought_framed hb)
  have HD8 := Aside0.mk ((hb.block D (blk_lt HE7.out)).trans HE7.out)
  clear hb HB7 HE7 HI7 H7 HD7
  have m0 : w8.cell? ⟨D, 0, none⟩ = some (.int .i64 5) := (blk_cell HD8.out 0).trans rfl
  have m1 : w8.cell? ⟨D, 1, none⟩ = some (.int .i64 0) := (blk_cell HD8.out 1).trans rfl
  have m2 : w8.cell? ⟨D, 2, none⟩ = some (.int .i64 0) := (blk_cell HD8.out 2).trans rfl
  have m3 : w8.cell? ⟨D, 3, none⟩ = some (.string ⟨#[]⟩) := (blk_cell HD8.out 3).trans rfl
  obtain ⟨S8, hS8⟩ := H8.out.get1
  have HF8 := Aside0.mk (reg_Who (by decide) (finds3 hS8))
  clear hS8
  go_wp2_with fail
  refine HF8.out.mono ?_
  rintro e w9 ⟨v9, rfl, hx, _, hb⟩
  obtain ⟨A9, c9, rfl, hc9, hC9⟩ := (show RowX (Kd.int .i64) 3 w9 v9 [1, 2] from hx).reads
  have H9 := Aside0.mk (H8.out.quiet (gf _ _) nought_framed hb)
  have HD9 := Aside0.mk ((hb.block D (blk_lt HD8.out)).trans HD8.out)
  have HI9 := Aside0.mk (ints_calls (l := [1, 2]) (Kd.C_below hC9 (below_alloc (Below.refl _ _) (.cells #[.int .i64 1, .int .i64 2] 3 (0, 0)))) hc9 (C_cells w9 [1, 2] 3 (by decide)) (c1 := 2) (by decide) (by decide))
  have HB9 := Aside0.mk (Two.quiet (gf _ _) nought_framed H9.out (below_alloc (Below.refl _ _) (.cells #[.int .i64 1, .int .i64 2] 3 (0, 0))))
  have HE9 := Aside0.mk (((Turn.refl (fun _ => False) w9).alloc (.cells #[.int .i64 1, .int .i64 2] 3 (0, 0))).blk HD9.out (fun x => x))
  clear hx hb hc9 hC9 HF8 H8 HD8 m0 m1 m2 m3
  go_wp2_with fail
  refine HI9.out.mono ?_
  rintro e w10 ⟨rfl, hb⟩
  have H10 := Aside0.mk (HB9.out.quiet (gf _ _) nought_framed hb)
  have HD10 := Aside0.mk ((hb.block D (blk_lt HE9.out)).trans HE9.out)
  clear hb HB9 HE9 HI9 H9 HD9
  have m0 : w10.cell? ⟨D, 0, none⟩ = some (.int .i64 5) := (blk_cell HD10.out 0).trans rfl
  have m1 : w10.cell? ⟨D, 1, none⟩ = some (.int .i64 0) := (blk_cell HD10.out 1).trans rfl
  have m2 : w10.cell? ⟨D, 2, none⟩ = some (.int .i64 0) := (blk_cell HD10.out 2).trans rfl
  have m3 : w10.cell? ⟨D, 3, none⟩ = some (.string ⟨#[]⟩) := (blk_cell HD10.out 3).trans rfl
  obtain ⟨S10, hS10⟩ := H10.out.get1
  have HF10 := Aside0.mk (show Calls Try.prog 20 #[.pointer (some ⟨g, 0, none⟩), .agg #[.int .i64 5, .int .i64 0, .int .i64 0, .string ⟨#[]⟩], .int .i64 1] w10 (fun e w' => e = .returned (.int .i64 2) ∧ Below w10.heap.size w10 w') from reg_Hits 1 (by decide) (finds3 hS10))
  clear hS10
  go_wp2_with fail
  refine HF10.out.mono ?_
  rintro e w11 ⟨rfl, hb⟩
  have H11 := Aside0.mk (H10.out.quiet (gf _ _) nought_framed hb)
  clear hb H10 HD10 m0 m1 m2 m3 HF10
  go_wp2_with fail
  refine (show Calls Try.prog 11 #[.pointer (some ⟨g, 0, none⟩)] w11 (fun e w' => e = .returned (.int .i64 3) ∧ w' = w11) from two_Len H11.out).mono ?_
  rintro e w12 ⟨rfl, rfl⟩
  go_wp2_with fail
  go_ret
  exact ⟨rfl, H11.out.below⟩
end Go.Proofs.Ytaninnkhdhpcgaa.P
