/- A register of entries: a row taken over, Find; no conditions beyond small numbers. -/
import Derived.Test.YtaninnkhdhpcgaaGRegSort
import Derived.Test.YtaninnkhdhpcgaaGRegA
import Derived.Test.YtaninnkhdhpcgaaPmatchMatch
namespace Go.Proofs.Ytaninnkhdhpcgaa.P
open Go.RowKit Go.Maps Go.Proofs.YtaninnkhdhpcgaaW.PrintWords Go.Proofs.YtaninnkhdhpcgaaW.PrintLast Go.Proofs.YtaninnkhdhpcgaaW.PrintMore
set_option linter.unusedVariables false
set_option linter.unusedSimpArgs false

theorem R_empty {α : Type} (d : Kd α) (e : Nat) (w : World) (base : Nat) (ok : Nat → Prop) {g : Nat} (hb : w.heap[g]? = some (.cells #[] e (0, 0))) (hg : base ≤ g) (hok : ok g) : d.R e w base ok (.slice (some ⟨g, 0, none⟩) 0 0) [] :=
  ⟨fun k hk => by
    have : g = k := by simpa [Value.ownBlock] using hk
    exact this ▸ hok, [], ⟨by simp, .inr ⟨g, 0, #[], rfl, hg, hb, Nat.le_refl _, Nat.zero_le _, by simp, by simp⟩⟩, Reps.none _ _⟩
theorem eq_nil_slice (ad : Addr) (n c : Nat) (w : World) : (binOp .eql 55 (.slice (some ad) n c) (.slice none 0 0)).run Try.prog w = .ok (.bool false) w := by
  have h : ∀ d, (Op.equalIn (d + 1) 55 (.slice (some ad) n c) (.slice none 0 0)).run Try.prog w = .ok false w := fun d => by simp [Op.equalIn, run_underlying Try.underlying55]
  have h2 : (Op.equalIn Op.maxDepth 55 (.slice (some ad) n c) (.slice none 0 0)).run Try.prog w = .ok false w := h 9999
  simp [binOp, Op.equal, h2, Result.andThen]
theorem eq_nil_nil (w : World) : (binOp .eql 55 (.slice none 0 0) (.slice none 0 0)).run Try.prog w = .ok (.bool true) w := by
  have h : ∀ d, (Op.equalIn (d + 1) 55 (.slice none 0 0) (.slice none 0 0)).run Try.prog w = .ok true w := fun d => by simp [Op.equalIn, run_underlying Try.underlying55]
  have h2 : (Op.equalIn Op.maxDepth 55 (.slice none 0 0) (.slice none 0 0)).run Try.prog w = .ok true w := h 9999
  simp [binOp, Op.equal, h2, Result.andThen]
theorem et_openM {w w1 : World} {base : Nat} {ok : Nat → Prop} {x : Ent} {cs : List Value} (h : kEt.K w x cs) : kEt.M w1 base ok x cs := by
  rw [kEt_open h]
  exact kEt_mkM _ _ _ x
set_option maxHeartbeats 4000000 in
set_option maxRecDepth 100000 in
theorem clone_calls {v : Value} {xs : List Ent} {w : World} (h : RowX kEt 59 w v xs) (hl : xs.length ≤ 1000000) :
    Calls Try.prog 28 #[v] w fun e w' => ∃ v', e = .returned v' ∧ RowX kEt 59 w' v' xs ∧ (∀ k, v'.ownBlock = some k → w.heap.size ≤ k) ∧ Below w.heap.size w w' := by
  have hf : (v = .slice none 0 0 ∧ xs = []) ∨ ∃ ad c, v = .slice (some ad) xs.length c := by
    obtain ⟨_, inner, ho, _⟩ := h
    rcases ho.2 with ⟨rfl, hn⟩ | ⟨g, cap, cur, rfl, _⟩
    · exact .inl ⟨rfl, List.eq_nil_of_length_eq_zero hn⟩
    · exact .inr ⟨_, _, rfl⟩
  rcases hf with ⟨rfl, rfl⟩ | ⟨ad, c, rfl⟩
  · have hq := eq_nil_nil w
    clear h hl
    go_enter Try.func28, Try.ntmps28
    go_wp2_with fail
    go_ret
    exact ⟨_, rfl, RowX.nil _ _ _, fun k hk => by simp [Value.ownBlock] at hk, Below.refl _ _⟩
  · obtain ⟨A, c', e1, hc, hC⟩ := h.reads
    injection e1 with e1 _ e3
    subst e1
    subst e3
    have HC := Aside0.mk hC
    have HL := Aside0.mk hl
    have hq := eq_nil_slice ad xs.length c w
    clear hC h hc hl
    go_enter Try.func28, Try.ntmps28
    go_wp2_with (at_builtin; go_loud (refine Kd.R_append_rows kEt (Rr := kEt.K w) (w0 := w) 0 rfl (.tmp 5) (.tmp 6) 55 59 (.agg #[.int .i64 0, .int .u32 0, .int .u32 0, .bool false, .int .i64 0]) 32 rfl Try.underlying55 infoEn rfl (by decide) (by decide) (.slice (some ⟨w.heap.size, 0, none⟩) 0 0) [] xs (some ad) xs.length c (fun k => w.heap.size ≤ k) (fun _ => False) rfl rfl ?aO ?aR ?aM (fun _ hk => hk.elim) ?aF ?aB (Nat.zero_le _) ?aL ?_))
    case aO => exact R_empty _ _ _ _ _ (blk_new _ _) (Nat.zero_le _) (Nat.le_refl _)
    case aR => exact (Kd.C_below HC.out (below_alloc (Below.refl _ _) _))
    case aM => exact fun x cs hx => et_openM hx
    case aF => exact fun k hk => by first | omega | (rw [alloc_size] at hk; omega)
    case aB => exact (below_alloc (Below.refl _ _) _).mono (Nat.zero_le _)
    case aL => have := HL.out; simp; omega
    intro v1 w1 hR _ hg hat
    have HR := Aside0.mk hR
    have HG := Aside0.mk hg
    clear hR hg
    go_wp2_with fail
    go_ret
    have hb0 := ((Turn.refl (fun k => w.heap.size ≤ k) w).alloc (.cells #[] 59)).grown HG.out (fun k hk => .inr (Nat.le_of_eq (Option.some.inj hk)))
    have hb : Turn (fun _ => False) w w1 := hb0.shrink (fun k hk => hk)
    exact ⟨v1, rfl, RowX.of_R kEtE HR.out, HR.out.1, hb.to_below⟩
/-! ### what is found -/
def hitsL (wd : Int) (mt : Flt → Bool) (L : List Ent) : List Ent := L.filter (fun e => if isOne e.flt = true then e.flt.f0 == wd else mt e.flt)
theorem hits_split (wd : Int) (mt : Flt → Bool) (L : List Ent) : (wordL L wd ++ (restE L).filter (fun e => mt e.flt)).Perm (hitsL wd mt L) := by
  have h := List.filter_append_perm (fun e : Ent => isOne e.flt) (hitsL wd mt L)
  have e1 : (hitsL wd mt L).filter (fun e => isOne e.flt) = wordL L wd := by
    unfold hitsL wordL
    rw [List.filter_filter]
    refine List.filter_congr (fun e _ => ?_)
    cases isOne e.flt <;> simp
  have e2 : (hitsL wd mt L).filter (fun e => !isOne e.flt) = (restE L).filter (fun e => mt e.flt) := by
    unfold hitsL restE
    rw [List.filter_filter, List.filter_filter]
    refine List.filter_congr (fun e _ => ?_)
    cases isOne e.flt <;> simp
  rw [e1, e2] at h
  exact h
theorem since_one : ∀ {L : List Ent}, L.Pairwise (fun a b => a.since < b.since) → ∀ {x e : Ent}, x ∈ L → e ∈ L → x.since = e.since → x = e
  | [], _, x, e, hx, _, _ => (List.not_mem_nil hx).elim
  | a :: L, hp, x, e, hx, he, h => by
    obtain ⟨h1, h2⟩ := List.pairwise_cons.1 hp
    rcases List.mem_cons.1 hx with rfl | hx'
    · rcases List.mem_cons.1 he with rfl | he'
      · rfl
      · have := h1 e he'
        omega
    · rcases List.mem_cons.1 he with rfl | he'
      · have := h1 x hx'
        omega
      · exact since_one h2 hx' he' h
theorem found_sorted {wd : Int} {mt : Flt → Bool} {L ys : List Ent} (ho : L.Pairwise (fun a b => a.since < b.since)) (hp : ys.Perm (wordL L wd ++ (restE L).filter (fun e => mt e.flt))) (hs : ys.Pairwise (fun a b => a.since ≤ b.since)) : ys = hitsL wd mt L := by
  have h2 := hp.trans (hits_split wd mt L)
  refine List.Perm.eq_of_pairwise (le := fun a b => a.since ≤ b.since) (fun a b ha hb h1 h3 => ?_) hs ((ho.sublist List.filter_sublist).imp (fun h => Int.le_of_lt h)) h2
  exact since_one ho (List.mem_filter.1 (h2.mem_iff.1 ha)).1 (List.mem_filter.1 hb).1 (by omega)
end Go.Proofs.Ytaninnkhdhpcgaa.P
