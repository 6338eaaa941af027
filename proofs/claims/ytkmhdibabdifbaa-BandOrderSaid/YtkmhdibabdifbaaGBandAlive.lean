/- The chapter's example holds; no conditions. -/
import Derived.Test.YtkmhdibabdifbaaGBandTwo
import Derived.Test.YtkmhdibabdifbaaPsignalboxlaw15packet
namespace Go.Proofs.Ytkmhdibabdifbaa.P
open Go.RowKit Go.Proofs.YtkmhdibabdifbaaW.PrintWords Go.Proofs.YtkmhdibabdifbaaW.PrintLast Go.Proofs.YtkmhdibabdifbaaW.PrintMore
set_option linter.unusedVariables false
set_option linter.unusedSimpArgs false

def pkT (t : Int) : Pk := ⟨⟨0, 0, 0, ⟨#[]⟩⟩, 0, t, false⟩
def qa0 : BQ := ⟨fun _ => [], 2, 3, 0, false⟩
def qa1 : BQ := putQ qa0 1 (pkT 1)
def qa2 : BQ := putQ qa1 0 (pkT 2)
def qa3 : BQ := putQ qa2 1 (pkT 3)
def qa4 : BQ := takeQ qa3 0 []
def qa5 : BQ := takeQ qa4 1 [pkT 3]
def qa6 : BQ := { qa5 with stopped := true }
theorem ok0 : BOk qa0 := ⟨by decide, by decide, by decide, by decide, fun i => by simp [qa0]⟩
theorem BOk.put1 {q : BQ} {N : Nat} (h : BOk q) (hl : ∀ i, (q.rows i).length ≤ N) (hN : N < 1000000) (hm : q.many < 1000000) (band : Int) (p : Pk) : BOk (putQ q band p) ∧ ∀ i, ((putQ q band p).rows i).length ≤ N + 1 := by
  have hr : ∀ i, ((putQ q band p).rows i).length ≤ N + 1 := fun i => by
    show (if i = bandAt q band then q.rows i ++ [p] else q.rows i).length ≤ N + 1
    have := hl i
    split
    · rw [List.length_append]; simp; omega
    · omega
  exact ⟨⟨h.b1, h.b2, by have := h.m0; show 0 ≤ q.many + 1; omega, by show q.many + 1 ≤ 1000000; omega, fun i => by have := hr i; omega⟩, hr⟩
theorem BOk.take1 {q : BQ} {N : Nat} (h : BOk q) (hl : ∀ i, (q.rows i).length ≤ N) (hN : N ≤ 1000000) (hm : 0 < q.many) (i : Int) (t : List Pk) (ht : t.length ≤ N) : BOk (takeQ q i t) ∧ ∀ j, ((takeQ q i t).rows j).length ≤ N := by
  have hr : ∀ j, ((takeQ q i t).rows j).length ≤ N := fun j => by
    show (if j = i then t else q.rows j).length ≤ N
    have := hl j
    split <;> omega
  exact ⟨⟨h.b1, h.b2, by show 0 ≤ q.many - 1; omega, by have := h.m1; show q.many - 1 ≤ 1000000; omega, fun j => by have := hr j; omega⟩, hr⟩
theorem ok1 : BOk qa1 ∧ ∀ i, (qa1.rows i).length ≤ 1 := ok0.put1 (N := 0) (fun i => by simp [qa0]) (by decide) (by decide) _ _
theorem ok2 : BOk qa2 ∧ ∀ i, (qa2.rows i).length ≤ 2 := ok1.1.put1 ok1.2 (by decide) (by decide) _ _
theorem ok3 : BOk qa3 ∧ ∀ i, (qa3.rows i).length ≤ 3 := ok2.1.put1 ok2.2 (by decide) (by decide) _ _
theorem ok4 : BOk qa4 ∧ ∀ i, (qa4.rows i).length ≤ 3 := ok3.1.take1 ok3.2 (by decide) (by decide) _ _ (by decide)
theorem rows4 : ∀ j : Nat, j < 1 → qa4.rows j = [] := by
  intro j hj
  obtain rfl : j = 0 := by omega
  rfl
set_option maxHeartbeats 8000000 in
set_option maxRecDepth 100000 in
theorem alive15 (w : World) : Calls Try.prog 8 #[] w fun e w' => e = .returned (.bool true) ∧ Below w.heap.size w w' := by
  have hu := Try.underlying31
  have HP1 := Aside0.mk (fun w => signalboxlaw15_packet.calls 1 0 0 0 ⟨#[]⟩ 0 1 false w rfl)
  have HP2 := Aside0.mk (fun w => signalboxlaw15_packet.calls 2 0 0 0 ⟨#[]⟩ 0 2 false w rfl)
  have HP3 := Aside0.mk (fun w => signalboxlaw15_packet.calls 3 0 0 0 ⟨#[]⟩ 0 3 false w rfl)
  have HP4 := Aside0.mk (fun w => signalboxlaw15_packet.calls 4 0 0 0 ⟨#[]⟩ 0 4 false w rfl)
  go_enter Try.func8, Try.ntmps8
  go_wp2_with fail
  refine (two_New 2 3 nought_framed (Two.start w)).mono ?_
  rintro e w1 ⟨g, rfl, H, _⟩
  have H1 := Aside0.mk (show Two w w1 (QP g 0 qa0) Nought (fun _ => False) from H)
  clear H
  go_wp2_with fail
  refine (HP1.out _).mono ?_
  rintro e w2 ⟨rfl, hd⟩
  have H2 := Aside0.mk (H1.out.quiet (qf _ _ _) nought_framed hd)
  clear hd H1
  go_wp2_with fail
  refine (two_Put nought_framed H2.out 1 (pkT 1) (by omega) ok0 (by decide)).mono ?_
  rintro e w3 ⟨rfl, H, _⟩
  have H3 := Aside0.mk H
  clear H H2
  go_wp2_with fail
  refine (HP2.out _).mono ?_
  rintro e w4 ⟨rfl, hd⟩
  have H4 := Aside0.mk (H3.out.quiet (qf _ _ _) nought_framed hd)
  clear hd H3
  go_wp2_with fail
  refine (two_Put nought_framed (show Two w _ (QP g 1 qa1) Nought _ from H4.out) 0 (pkT 2) (by omega) ok1.1 (by decide)).mono ?_
  rintro e w5 ⟨rfl, H, _⟩
  have H5 := Aside0.mk H
  clear H H4
  go_wp2_with fail
  refine (HP3.out _).mono ?_
  rintro e w6 ⟨rfl, hd⟩
  have H6 := Aside0.mk (H5.out.quiet (qf _ _ _) nought_framed hd)
  clear hd H5
  go_wp2_with fail
  refine (two_Put nought_framed (show Two w _ (QP g 2 qa2) Nought _ from H6.out) 1 (pkT 3) (by omega) ok2.1 (by decide)).mono ?_
  rintro e w7 ⟨rfl, H, _⟩
  have H7 := Aside0.mk H
  clear H H6
  go_wp2_with fail
  refine (HP4.out _).mono ?_
  rintro e w8 ⟨rfl, hd⟩
  have H8 := Aside0.mk (H7.out.quiet (qf _ _ _) nought_framed hd)
  clear hd H7
  go_wp2_with fail
  refine (two_Put_full nought_framed (show Two w _ (QP g 3 qa3) Nought _ from H8.out) 0 (pkT 4) (by decide)).mono ?_
  rintro e w9 ⟨rfl, H, _⟩
  have H9 := Aside0.mk H
  clear H H8
  go_wp2_with fail
  refine (two_Take nought_framed (show Two w _ (QP g 3 qa3) Nought _ from H9.out) (by omega) ok3.1 0 (pkT 2) [] (by decide) (by rfl) (fun j hj => by omega) (by decide) rfl).mono ?_
  rintro e w10 ⟨rfl, H, _⟩
  have H10 := Aside0.mk H
  clear H H9
  unfold pkV pkT
  go_upto_region 5 with (fail)
  obtain ⟨D1, hD1⟩ : ∃ D, D = w10.heap.size := ⟨_, rfl⟩
  rw [← hD1]
  refine wp_world (fun W => Two w W (QP g 4 qa4) Nought (fun k => k = D1) ∧ W.heap[D1]? = some (.cells #[.int .i64 0, .int .i64 0, .int .i64 0, .string ⟨#[]⟩, .int .i64 0, .int .i64 2, .bool false] 31 (0, 0))) ⟨H10.out.box (qf _ _ _) nought_framed _ hD1 (fun k hk => .inr hk), by rw [hD1]; exact blk_new _ _⟩ ?_
  rintro W11 ⟨H, hd1⟩
  have H11 := Aside0.mk H
  have HD1 := Aside0.mk hd1
  clear H hd1 hD1 H10
  go_wp2_with fail
  refine (two_Take nought_framed H11.out (by omega) ok4.1 1 (pkT 1) [pkT 3] (by decide) (by rfl) rows4 (by decide) rfl).mono ?_
  rintro e w12 ⟨rfl, H, hk⟩
  have H12 := Aside0.mk H
  have HD12 := Aside0.mk (hk.blk HD1.out rfl)
  clear H hk H11 HD1
  unfold pkV pkT
  go_upto_region 6 with (fail)
  obtain ⟨D2, hD2⟩ : ∃ D, D = w12.heap.size := ⟨_, rfl⟩
  rw [← hD2]
  refine wp_world (fun W => Two w W (QP g 5 qa5) Nought (fun k => k = D1 ∨ k = D2) ∧ W.heap[D1]? = some (.cells #[.int .i64 0, .int .i64 0, .int .i64 0, .string ⟨#[]⟩, .int .i64 0, .int .i64 2, .bool false] 31 (0, 0)) ∧ W.heap[D2]? = some (.cells #[.int .i64 0, .int .i64 0, .int .i64 0, .string ⟨#[]⟩, .int .i64 0, .int .i64 1, .bool false] 31 (0, 0))) ⟨H12.out.box (qf _ _ _) nought_framed _ hD2 (fun k hk => hk), ((Turn.refl (fun _ => False) w12).alloc _).blk HD12.out (fun x => x), by rw [hD2]; exact blk_new _ _⟩ ?_
  rintro W13 ⟨H, hd1, hd2⟩
  have H13 := Aside0.mk H
  have HD1 := Aside0.mk hd1
  have HD2 := Aside0.mk hd2
  clear H hd1 hd2 hD2 H12 HD12
  go_wp2_with fail
  refine (two_Stop nought_framed H13.out).mono ?_
  rintro e w14 ⟨rfl, H, hk⟩
  have H14 := Aside0.mk (show Two w w14 (QP g 5 qa6) Nought _ from H)
  have HE1 := Aside0.mk (hk.blk HD1.out (.inl rfl))
  have HE2 := Aside0.mk (hk.blk HD2.out (.inr rfl))
  clear H hk H13 HD1 HD2
  go_wp2_with fail
  refine (two_Take_no nought_framed H14.out (.inr rfl)).mono ?_
  rintro e w15 ⟨rfl, H, hk⟩
  have H15 := Aside0.mk H
  have HD1 := Aside0.mk (hk.blk HE1.out (.inl rfl))
  have HD2 := Aside0.mk (hk.blk HE2.out (.inr rfl))
  clear H hk H14 HE1 HE2
  unfold pkV pkZ z31 z29
  go_upto_region 8 with (fail)
  refine wp_world (fun W => Two w W (QP g 5 qa6) Nought (fun k => k = D1 ∨ k = D2) ∧ W.heap[D1]? = some (.cells #[.int .i64 0, .int .i64 0, .int .i64 0, .string ⟨#[]⟩, .int .i64 0, .int .i64 2, .bool false] 31 (0, 0)) ∧ W.heap[D2]? = some (.cells #[.int .i64 0, .int .i64 0, .int .i64 0, .string ⟨#[]⟩, .int .i64 0, .int .i64 1, .bool false] 31 (0, 0))) ⟨H15.out.quiet (qf _ _ _) nought_framed (below_alloc (Below.refl _ _) _), ((Turn.refl (fun _ => False) w15).alloc _).blk HD1.out (fun x => x), ((Turn.refl (fun _ => False) w15).alloc _).blk HD2.out (fun x => x)⟩ ?_
  rintro W16 ⟨H, hd1, hd2⟩
  have H16 := Aside0.mk H
  have m1 : W16.cell? ⟨D1, 5, none⟩ = some (.int .i64 2) := (blk_cell hd1 5).trans rfl
  have m2 : W16.cell? ⟨D2, 5, none⟩ = some (.int .i64 1) := (blk_cell hd2 5).trans rfl
  clear H hd1 hd2 H15 HD1 HD2
  go_wp2_with fail
  refine (two_Len H16.out).mono ?_
  rintro e w17 ⟨rfl, rfl⟩
  rw [show qa6.many = 1 from rfl]
  go_wp2_with fail
  go_ret
  exact ⟨rfl, H16.out.below⟩
end Go.Proofs.Ytkmhdibabdifbaa.P
