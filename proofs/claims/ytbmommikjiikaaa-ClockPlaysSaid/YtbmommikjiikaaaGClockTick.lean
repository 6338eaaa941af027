/- A clock: Tick; no conditions beyond small numbers. -/
import Derived.Test.YtbmommikjiikaaaGClockNext
import Derived.Test.YtbmommikjiikaaaGClockSort
import Derived.Test.YtbmommikjiikaaaGMeas
namespace Go.Proofs.Ytbmommikjiikaaa.P
open Go.RowKit Go.Maps Go.Proofs.YtbmommikjiikaaaW.PrintWords Go.Proofs.YtbmommikjiikaaaW.PrintLast Go.Proofs.YtbmommikjiikaaaW.PrintMore
set_option linter.unusedVariables false
set_option linter.unusedSimpArgs false

def dueL (L : List En) (t : Int) : List En := L.filter (fun e => e.due == t)
def restL (L : List En) (t : Int) : List En := L.filter (fun e => !(e.due == t))
def delsL (L : List En) (D : List En) : List En := D.foldl (fun M e => outL M e.key) L
def tickC (c : CK) : CK := ⟨c.now + 1, c.since, restL c.L (c.now + 1)⟩
/-- What has been collected so far. -/
def ColL (L : List En) (t : Int) (left : Int → Bool) (xs : List En) : Prop := xs.Nodup ∧ ∀ e, e ∈ xs ↔ e ∈ L ∧ e.due = t ∧ left e.key = false
theorem col_start (L : List En) (t : Int) : ColL L t (fun i => (mapOf L i).isSome) [] := by
  refine ⟨List.nodup_nil, fun e => ⟨fun h => (List.not_mem_nil h).elim, fun h => ?_⟩⟩
  have := (hasK_iff L e.key).2 ⟨e, h.1, rfl⟩
  have h2 : hasK L e.key = false := h.2.2
  rw [this] at h2
  cases h2
theorem left_not {left : Int → Bool} {a b : Int} : ((left a && !(a == b)) = false) ↔ left a = false ∨ a = b := by
  cases left a <;> simp
theorem col_take {L : List En} (hk : L.Pairwise (fun a b => a.key ≠ b.key)) {t : Int} {left : Int → Bool} {xs : List En} (h : ColL L t left xs) {e : En} (he : e ∈ L) (hl : left e.key = true) (hd : e.due = t) : ColL L t (fun j => left j && !(j == e.key)) (xs ++ [e]) := by
  refine ⟨?_, fun x => ?_⟩
  · refine List.nodup_append.2 ⟨h.1, by simp, fun a ha b hb => ?_⟩
    rw [List.mem_singleton] at hb
    rintro rfl
    subst hb
    have := ((h.2 a).1 ha).2.2
    rw [hl] at this
    cases this
  · rw [List.mem_append, List.mem_singleton, h.2 x, left_not]
    constructor
    · rintro (⟨a, b, c⟩ | rfl)
      · exact ⟨a, b, .inl c⟩
      · exact ⟨he, hd, .inr rfl⟩
    · rintro ⟨a, b, c | c⟩
      · exact .inl ⟨a, b, c⟩
      · exact .inr (key_one hk a he c)
theorem col_skip {L : List En} (hk : L.Pairwise (fun a b => a.key ≠ b.key)) {t : Int} {left : Int → Bool} {xs : List En} (h : ColL L t left xs) {e : En} (he : e ∈ L) (hd : e.due ≠ t) : ColL L t (fun j => left j && !(j == e.key)) xs := by
  refine ⟨h.1, fun x => ?_⟩
  rw [h.2 x, left_not]
  constructor
  · rintro ⟨a, b, c⟩
    exact ⟨a, b, .inl c⟩
  · rintro ⟨a, b, c | c⟩
    · exact ⟨a, b, c⟩
    · rw [key_one hk a he c] at b
      exact absurd b hd
theorem nodup_keys {L : List En} (hk : L.Pairwise (fun a b => a.key ≠ b.key)) : L.Nodup := hk.imp (fun h e => h (by rw [e]))
theorem since_one : ∀ {L : List En}, L.Pairwise (fun a b => a.since < b.since) → ∀ {x e : En}, x ∈ L → e ∈ L → x.since = e.since → x = e
  | [], _, x, e, hx, _, _ => (List.not_mem_nil hx).elim
  | a :: L, hp, x, e, hx, he, h => by
    obtain ⟨h1, h2⟩ := List.pairwise_cons.1 hp
    rcases List.mem_cons.1 hx with rfl | hx'
    · rcases List.mem_cons.1 he with rfl | he'
      · rfl
      · have := h1 e he'
        omega
    · rcases List.mem_cons.1 he with rfl | he'
      · have := h1 x hx'
        omega
      · exact since_one h2 hx' he' h
theorem col_end {L : List En} (hk : L.Pairwise (fun a b => a.key ≠ b.key)) (ho : L.Pairwise (fun a b => a.since < b.since)) {t : Int} {left : Int → Bool} {xs ys : List En} (h : ColL L t left xs) (hl : ∀ e ∈ L, left e.key = false) (hp : ys.Perm xs) (hs : ys.Pairwise (fun a b => a.since ≤ b.since)) : ys = dueL L t := by
  have hnd : (dueL L t).Nodup := (nodup_keys hk).sublist List.filter_sublist
  have hm : ∀ e, e ∈ xs ↔ e ∈ dueL L t := fun e => by
    unfold dueL
    rw [h.2 e, List.mem_filter]
    constructor
    · rintro ⟨a, b, _⟩
      exact ⟨a, by simpa using b⟩
    · rintro ⟨a, b⟩
      exact ⟨a, by simpa using b, hl e a⟩
  have hp2 : xs.Perm (dueL L t) := (List.perm_ext_iff_of_nodup h.1 hnd).2 hm
  refine List.Perm.eq_of_pairwise (le := fun a b => a.since ≤ b.since) (fun a b ha hb h1 h2 => ?_) hs ?_ (hp.trans hp2)
  · have ha' : a ∈ L := by
      have := (hm a).1 (hp.mem_iff.1 ha)
      exact (List.mem_filter.1 this).1
    exact since_one ho ha' (List.mem_filter.1 hb).1 (by omega)
  · exact (ho.sublist List.filter_sublist).imp (fun h => Int.le_of_lt h)
theorem col_len {L : List En} (hk : L.Pairwise (fun a b => a.key ≠ b.key)) {t : Int} {left : Int → Bool} {xs : List En} (h : ColL L t left xs) : xs.length ≤ L.length := by
  have hp : xs.Perm (L.filter (fun e => e.due == t && !left e.key)) := by
    refine (List.perm_ext_iff_of_nodup h.1 ((nodup_keys hk).sublist List.filter_sublist)).2 (fun e => ?_)
    rw [h.2 e, List.mem_filter]
    simp
  rw [hp.length_eq]
  exact List.length_filter_le _ _
theorem dels_eq : ∀ (D L : List En), delsL L D = L.filter (fun x => !D.any (fun e => x.key == e.key))
  | [], L => by
    have : L.filter (fun x => true) = L := List.filter_eq_self.2 (fun _ _ => rfl)
    simp [delsL, this]
  | a :: D, L => by
    have := dels_eq D (outL L a.key)
    unfold delsL at this ⊢
    rw [List.foldl_cons, this]
    unfold outL
    rw [List.filter_filter]
    congr 1
    funext x
    simp only [List.any_cons]
    cases D.any (fun e => x.key == e.key) <;> cases (x.key == a.key) <;> rfl
theorem dels_due {L : List En} (hk : L.Pairwise (fun a b => a.key ≠ b.key)) (t : Int) : delsL L (dueL L t) = restL L t := by
  rw [dels_eq]
  unfold restL
  refine List.filter_congr (fun x hx => ?_)
  congr 1
  rw [Bool.eq_iff_iff, List.any_eq_true]
  constructor
  · rintro ⟨e, he, hxe⟩
    have he' := List.mem_filter.1 he
    rw [key_one hk hx he'.1 (by simpa using hxe)]
    exact he'.2
  · intro h
    exact ⟨x, List.mem_filter.2 ⟨hx, h⟩, by simp⟩
theorem dels_take {L D : List En} {j : Nat} {e : En} (he : D[j]? = some e) : delsL L (D.take (j + 1)) = outL (delsL L (D.take j)) e.key := by
  unfold delsL
  rw [List.take_add_one, he]
  simp [List.foldl_append]
theorem dels_sub (L D : List En) : (delsL L D).Sublist L := by
  rw [dels_eq]
  exact List.filter_sublist
theorem COk.tick {c : CK} (h : COk c) (hn : c.now < 1125899906842624) : COk (tickC c) := by
  have hm : ∀ e ∈ restL c.L (c.now + 1), e ∈ c.L ∧ e.due ≠ c.now + 1 := fun e he => by
    have := List.mem_filter.1 he
    exact ⟨this.1, by simpa using this.2⟩
  refine ⟨by have := h.n0; show 0 ≤ c.now + 1; omega, by show c.now + 1 ≤ _; omega, h.s0, h.s1, Nat.le_trans (List.length_filter_le _ _) h.len, h.keys.sublist List.filter_sublist, h.order.sublist List.filter_sublist, fun e he => h.wf e (hm e he).1, fun e he => ?_, fun e he => h.since e (hm e he).1⟩
  have := h.due e (hm e he).1
  have := (hm e he).2
  show c.now + 1 < e.due ∧ _
  omega
section
variable {w w1 : World} {g mb : Nat} {c : CK} {S : Nat → Prop}
theorem ClockI.drop (h : ClockI w g mb c S) (hk : c.L.Pairwise (fun a b => a.key ≠ b.key)) {key : Int} (hw : (Lit.int .i64 key).wf = true) :
    ∃ w2, (Builtin.delete_ #[50, 3] 0 #[.map (some mb), .int .i64 key]).run Try.prog w = .ok (.tuple #[]) w2 ∧ ClockI w2 g mb (cancelC c key) S ∧ Turn (fun k => k = mb) w w2 := by
  obtain ⟨w2, s', hrun, hM, hs, hT⟩ := h.map.drop Try.underlying3 Try.underlying50 hw 0
  have ht : Turn (fun k => k = mb) w w2 := (Turn.refl _ w).map hT (.inl rfl)
  have hlen := out_len hk key
  have e : s' = (outL c.L key).length := by
    unfold hasK at hlen
    omega
  rw [← mapOf_out, e] at hM
  exact ⟨w2, hrun, ⟨ht.blk h.hb (fun e => h.gm e.symm), hM, h.sg, h.sm, fun k hk => Nat.lt_of_lt_of_le (h.lt k hk) ht.size⟩, ht⟩
theorem RangeZ.row {α : Type} {d : Kd α} {e : Nat} {v : Value} {xs : List α} {P : Program} {kt : TypeId} {q : IntKind} {b r s cnt : Nat} {f : Int → Option Value} {left : Int → Bool} (h : RangeZ P kt q w b r s f left cnt) (hx : RowX d e w v xs) : v.ownBlock ≠ some b ∧ v.ownBlock ≠ some r := by
  refine ⟨fun hk => ?_, fun hk => ?_⟩
  · obtain ⟨es, cl, hm⟩ := h.map.block
    exact hx.ne_map hm hk
  · obtain ⟨cs, hc⟩ := hx.typed hk
    exact h.ne_cells hc rfl
theorem C_keep {α : Type} {d : Kd α} {A : Option Addr} {n c : Nat} {xs : List α} (h : Kd.C d w A n xs) (hm : ∀ k, (Value.slice A n c).ownBlock = some k → w1.heap[k]? = w.heap[k]?) (hK : ∀ x cs, d.K w x cs → d.K w1 x cs) : Kd.C d w1 A n xs := by
  refine ⟨h.1, h.2.1, fun hn => ?_⟩
  obtain ⟨ad, rfl, hc⟩ := h.2.2 hn
  refine ⟨ad, rfl, fun j p hp => ?_⟩
  obtain ⟨cs, h1, h2, h3⟩ := hc j p hp
  refine ⟨cs, h1, hK _ _ h2, fun i u hu => ?_⟩
  have := h3 i u hu
  have hb : (ad.add (j * d.sz + i)).block = ad.block := by unfold Addr.add; split <;> rfl
  have hh := hm ad.block rfl
  unfold World.cell? at this ⊢
  rw [hb] at this ⊢
  rw [hh]
  exact this
end
theorem info54' : (Try.prog.info? 54).map (fun i => (i.zero, i.size, i.bytes)) = some (some (.agg #[.int .i64 0, .int .i64 0, .int .i64 0]), 3, 24) := by kernel_rfl
theorem info3' : (Try.prog.info? 3).map (fun i => (i.zero, i.size, i.bytes)) = some (some (.int .i64 0), 1, 8) := by kernel_rfl
set_option maxHeartbeats 16000000 in
set_option maxRecDepth 100000 in
theorem clock_Tick {w : World} {g : Nat} {c : CK} {S : Nat → Prop} (ok : COk c) (hn : c.now < 1125899906842624) (h : IsClock g c w S) :
    Calls Try.prog 11 #[.pointer (some ⟨g, 0, none⟩)] w fun e w' => ∃ v, e = .returned v ∧ RowX (Kd.int .i64) 3 w' v ((dueL c.L (c.now + 1)).map (·.key)) ∧ (∀ k, v.ownBlock = some k → w.heap.size ≤ k) ∧ IsClock g (tickC c) w' S ∧ Turn S w w' := by
  obtain ⟨mb, h⟩ := h
  have c0 := h.c0
  have z := fun j => blk_frozen h.hb j
  have hu := Try.underlying54
  have hw1 : wrap64 (c.now + 1) = c.now + 1 := w64_small _ (by have := ok.n0; omega) (by omega)
  obtain ⟨T, hT⟩ : ∃ T, T = c.now + 1 := ⟨_, rfl⟩
  rw [← hT] at hw1
  have H := Aside0.mk h
  have OK := Aside0.mk ok
  have HTn := Aside0.mk hT
  clear h ok hn
  go_enter Try.func11, Try.ntmps11
  go_upto_region 4 with (fail)
  rw [← hT, hw1]
  have HW : Aside0 (ClockI (w.setCell ⟨g, 0, none⟩ (.int .i64 T)) g mb ⟨T, c.since, c.L⟩ S ∧ Turn (fun k => k = g) w (w.setCell ⟨g, 0, none⟩ (.int .i64 T))) := by
    have hs := blk_set H.out.hb 0 (.int .i64 T)
    simp only [List.setIfInBounds_toArray, List.set_cons_zero, List.set_cons_succ] at hs
    have ht : Turn (fun k => k = g) w (w.setCell ⟨g, 0, none⟩ (.int .i64 T)) := (Turn.refl (fun k => k = g) _).setCell (.inl rfl) _
    exact ⟨⟨hs, H.out.map.turn ht H.out.gm, H.out.sg, H.out.sm, fun k hk => Nat.lt_of_lt_of_le (H.out.lt k hk) ht.size⟩, ht⟩
  refine wp_world (fun W => ClockI W g mb ⟨T, c.since, c.L⟩ S ∧ Turn (fun k => k = g) w W) HW.out ?_
  clear HW c0 z hT hw1
  rintro W1 ⟨h, ht⟩
  have c0 := h.c0
  have c1 := h.c1
  have H1 := Aside0.mk h
  have HT1 := Aside0.mk ht
  clear h ht
  go_wp2_with (at_range; refine wpList_range_z Try.underlying3 Try.underlying50 rfl _ rfl rfl H1.out.map ?_)
  intro w1 hrg ht hs
  have HR := Aside0.mk hrg
  have HT := Aside0.mk ht
  have HI := Aside0.mk (H1.out.turn ht (fun _ _ x => x))
  obtain ⟨r, hr⟩ : ∃ r, r = W1.heap.size := ⟨_, rfl⟩
  rw [← hr] at HR ⊢
  have HRr := Aside0.mk hr
  clear hrg ht hs c0 c1 hr
  go_wp2_with fail
  go_loopw [3] (fun v3 wr => ∃ xs left cnt, Aside0 (RowX kEn 54 wr v3 xs ∧ RangeZ Try.prog 3 .i64 wr mb r c.L.length (mapOf c.L) left cnt ∧ ColL c.L T left xs ∧ Turn (fun _ => False) W1 wr ∧ ∀ k, v3.ownBlock = some k → W1.heap.size ≤ k)) (fun _ wr => wr.rangeLeft mb r)
  case atStart => exact ⟨[], _, _, ⟨RowX.nil _ _ _, HR.out, col_start _ _, HT.out, fun k hk => by simp [Value.ownBlock] at hk⟩⟩
  case round =>
    obtain ⟨xs, left, cnt, HP⟩ := hrel
    clear HR HT HI
    go_wp2_with (at_next; refine wpList_next_z Try.underlying3 rfl _ rfl rfl HP.out.2.1 ?_ ?_)
    · intro h0 hl
      have HL0 := Aside0.mk hl
      clear hl h0
      go_wp2_with fail
      refine (sort_calls HP.out.1 (fun e he => by have h1 := OK.out.since e ((HP.out.2.2.1.2 e).1 he).1; have := OK.out.s1; omega) (by have h1 := col_len OK.out.keys HP.out.2.2.1; have := OK.out.len; omega)).mono ?_
      rintro e w5 ⟨rfl, A, cp, D, b, hv, hA, hp, hs, hC, ht⟩
      have hD := col_end OK.out.keys OK.out.order HP.out.2.2.1 (fun e he => HL0.out _ (OK.out.wf e he)) hp hs
      have hlen := hp.length_eq
      rw [← hlen] at hv hA hC
      have HS5 := Aside0.mk (show ∀ k, u3.ownBlock = some k → ¬ S k ∧ k < w5.heap.size from fun k hk => ⟨fun hS => by have h1 := HP.out.2.2.2.2 k hk; have := H1.out.lt k hS; omega, Nat.lt_of_lt_of_le (HP.out.1.lt hk) ht.size⟩)
      have HT5 := Aside0.mk (show Turn (fun k => k = g) w w5 from HT1.out.trans ((HP.out.2.2.2.1.trans ht (fun k hk => .inr (HP.out.2.2.2.2 k hk)))) (fun k hk => hk.elim))
      have HI5 := Aside0.mk (show ClockI w5 g mb ⟨T, c.since, c.L⟩ S from (H1.out.turn HP.out.2.2.2.1 (fun _ _ x => x)).turn ht (fun k hk e => (HS5.out k e).1 hk))
      subst hv
      have HC := Aside0.mk hC
      have HA := Aside0.mk hA
      have HDe := Aside0.mk hD
      clear hp hs hC ht hD hA hlen HL0
      go_wp2_with fail
      go_loopw [6, 42] (fun v6 v42 wr2 => ∃ j : Nat, j ≤ D.length ∧ v42 = .int .i64 j ∧ Aside0 (RowX (Kd.int .i64) 3 wr2 v6 ((D.take j).map (·.key)) ∧ (∀ k, v6.ownBlock = some k → w5.heap.size ≤ k) ∧ ClockI wr2 g mb ⟨T, c.since, delsL c.L (D.take j)⟩ S ∧ Turn S w5 wr2)) (fun _ v _ => D.length + 1 - (intOf v).toNat)
      case atStart => exact ⟨0, Nat.zero_le _, rfl, ⟨RowX.nil _ _ _, fun k hk => by simp [Value.ownBlock] at hk, HI5.out, Turn.refl _ _⟩⟩
      case round =>
        obtain ⟨j, hj, rfl, HQ⟩ := hrel
        by_cases hjl : j < D.length
        · have d1 : decide ((j : Int) < (D.length : Int)) = true := decide_eq_true (by omega)
          have j1 : (j : Int) < (D.length : Int) := by omega
          obtain rfl := HA.out (by omega)
          obtain ⟨e, he⟩ : ∃ e, D[j]? = some e := ⟨_, List.getElem?_eq_getElem hjl⟩
          have hCr := C_keep (c := cp) HC.out (fun k hk => HQ.out.2.2.2.block k (HS5.out k hk).2 (HS5.out k hk).1) (fun x cs h => by rw [kEn_open h]; exact kEn_mk _ _)
          obtain ⟨ad, had, h0, h1, h2⟩ := at_En hCr j hjl
          cases had
          rw [add_plain] at h0 h1 h2
          rw [List.getD_eq_getElem?_getD, he] at h0 h1 h2
          have HE := Aside0.mk he
          have h0' : wr.cell? ⟨b, j * 3, none⟩ = some (.int .i64 e.key) := h0
          have h1' : wr.cell? ⟨b, j * 3 + 1, none⟩ = some (.int .i64 e.due) := h1
          have h2' : wr.cell? ⟨b, j * 3 + 2, none⟩ = some (.int .i64 e.since) := h2
          clear h0 h1 h2 hCr he
          go_upto_region 15 with (fail)
          obtain ⟨E, hE⟩ : ∃ E, E = wr.heap.size := ⟨_, rfl⟩
          rw [← hE]
          refine wp_world (fun W => RowX (Kd.int .i64) 3 W u6 ((D.take j).map (·.key)) ∧ ClockI W g mb ⟨T, c.since, delsL c.L (D.take j)⟩ S ∧ Turn S w5 W ∧ W.heap[E]? = some (.cells #[.int .i64 e.key, .int .i64 e.due, .int .i64 e.since] 54 (0, 0))) ⟨HQ.out.1.turn ((Turn.refl (fun _ => False) wr).alloc _) (fun _ _ x => x), HQ.out.2.2.1.turn ((Turn.refl (fun _ => False) wr).alloc _) (fun _ _ x => x), HQ.out.2.2.2.alloc _, by rw [hE]; exact blk_new _ _⟩ ?_
          rintro W6 ⟨hx, hi, ht, hb⟩
          have k0 : W6.cell? ⟨E, 0, none⟩ = some (.int .i64 e.key) := (blk_cell hb 0).trans rfl
          have g1 : W6.cell? ⟨g, 1, none⟩ = some (.map (some mb)) := hi.c1
          have HX6 := Aside0.mk hx
          have HI6 := Aside0.mk hi
          have HT6 := Aside0.mk ht
          have HB6 := Aside0.mk hb
          have HEl := Aside0.mk (show e ∈ c.L by
            have h1 := List.mem_of_getElem? HE.out
            rw [HDe.out] at h1
            exact (List.mem_filter.1 h1).1)
          have HWf := Aside0.mk (OK.out.wf e HEl.out)
          have HKj := Aside0.mk (show (delsL c.L (D.take j)).Pairwise (fun a b => a.key ≠ b.key) from OK.out.keys.sublist (dels_sub _ _))
          have HDl := Aside0.mk (show D.length ≤ 1000 by
            rw [HDe.out]
            exact Nat.le_trans (List.length_filter_le _ _) OK.out.len)
          clear hx hi ht hb hE h0' h1' h2'
          refine start_ (n := 7) (S := fun w' => w'.cell? ⟨E, 0, none⟩ = some (.int .i64 e.key) ∧ w'.cell? ⟨g, 1, none⟩ = some (.map (some mb))) (ds := [6]) #[false, false, false, false, false, false, false] (by kernel_rfl) rfl rfl ⟨k0, g1⟩ (fun hHeld => ?_)
          refine pure_ (i := 0) (N := some 46) (v := ?_) (a' := ?_) #[true, false, false, false, false, false, false] rfl rfl (by kernel_rfl) (fun _ _ _ h => h) (Or.inl ⟨by rfl, ?_⟩) ?_ ?_
          rotate_left
          · intro w'
            go_simp
            with_reducible rfl
          rotate_left
          · simp only [Act.put, List.setIfInBounds_toArray, List.set_cons_zero, List.set_cons_succ, i64_w, i32_w]
            rfl
          refine pure_ (i := 1) (N := some 47) (v := ?_) (a' := ?_) #[true, true, false, false, false, false, false] rfl rfl (by kernel_rfl) (fun _ _ _ h => h) (Or.inl ⟨by rfl, ?_⟩) ?_ ?_
          rotate_left
          · intro w'
            go_simp
            with_reducible rfl
          rotate_left
          · simp only [Act.put, List.setIfInBounds_toArray, List.set_cons_zero, List.set_cons_succ, i64_w, i32_w]
            rfl
          refine pure_ (i := 2) (N := some 48) (v := ?_) (a' := ?_) #[true, true, true, false, false, false, false] rfl rfl (by kernel_rfl) (fun _ _ _ h => h) (Or.inl ⟨by rfl, ?_⟩) ?_ ?_
          rotate_left
          · intro w'
            go_simp
            with_reducible rfl
          rotate_left
          · simp only [Act.put, List.setIfInBounds_toArray, List.set_cons_zero, List.set_cons_succ, i64_w, i32_w]
            rfl
          refine pure_ (i := 4) (N := some 50) (v := ?_) (a' := ?_) #[true, true, true, false, true, false, false] rfl rfl (by kernel_rfl) (fun _ _ _ h => h) (Or.inl ⟨by rfl, ?_⟩) ?_ ?_
          rotate_left
          · intro w'
            go_simp
            with_reducible rfl
          rotate_left
          · simp only [Act.put, List.setIfInBounds_toArray, List.set_cons_zero, List.set_cons_succ, i64_w, i32_w]
            rfl
          refine take_ (i := 3) (N := some 49) (v := ?_) (a' := ?_) #[true, true, true, true, true, false, false] rfl rfl (by kernel_rfl) (fun _ _ _ h => h) (Or.inl ⟨by rfl, ?_⟩) hHeld ?_ ?_
          rotate_left
          · rintro w' ⟨s0, s1⟩
            go_simp
            with_reducible rfl
          rotate_left
          · simp only [Act.put, List.setIfInBounds_toArray, List.set_cons_zero, List.set_cons_succ, i64_w, i32_w]
            rfl
          refine take_ (i := 5) (N := some 51) (v := ?_) (a' := ?_) #[true, true, true, true, true, true, false] rfl rfl (by kernel_rfl) (fun _ _ _ h => h) (Or.inl ⟨by rfl, ?_⟩) hHeld ?_ ?_
          rotate_left
          · rintro w' ⟨s0, s1⟩
            go_simp
            with_reducible rfl
          rotate_left
          · simp only [Act.put, List.setIfInBounds_toArray, List.set_cons_zero, List.set_cons_succ, i64_w, i32_w]
            rfl
          refine last_ (i := 6) (N := none) #[true, true, true, true, true, true, true] rfl rfl (by kernel_rfl) (by decide) (fun K hK => ?_)
          obtain ⟨w7, hrun, hI7, hT7⟩ := (HI6.out.turn (w1 := W6.drew) ((Turn.refl (fun _ => False) W6).drew) (fun _ _ x => x)).drop HKj.out HWf.out
          refine value_ (w1 := w7) (v := .tuple #[]) (by rfl) rfl ?_ ?_
          · go_simp
          refine hK.out _ _ ?_
          clear hK K
          refine done_ (by kernel_rfl) ?_
          have T7 : Turn (fun k => k = mb) W6 w7 := ((Turn.refl _ W6).drew).then_ hT7
          have HX7 := Aside0.mk (HX6.out.turn T7 (fun k hk e => by obtain ⟨es, cl, hm⟩ := HI6.out.map.block; exact HX6.out.ne_map hm (by rw [hk, e])))
          have hb7 := T7.blk HB6.out (fun e => HI6.out.map.ne_cells HB6.out e.symm)
          have k7 : w7.cell? ⟨E, 0, none⟩ = some (.int .i64 e.key) := (blk_cell hb7 0).trans rfl
          have HI7 := Aside0.mk hI7
          have HT7 := Aside0.mk (HT6.out.trans T7 (fun k hk => .inl (hk ▸ HI6.out.sm)))
          have HTl := Aside0.mk (show ((D.take j).map (·.key)).length ≤ 1000 by have := HDl.out; rw [List.length_map, List.length_take]; omega)
          clear hb7 T7 hI7 hT7 hrun k0 g1
          go_wp2_with (at_builtin; go_loud (refine Kd.R_append (Kd.int .i64) (W := w7) (w0 := w7) 0 rfl (.tmp 52) (.tmp 55) 27 3 (.int .i64 0) 8 rfl Try.underlying27 info3' rfl (by decide) (by decide) u6 ((D.take j).map (·.key)) e.key _ (fun x => u6.ownBlock = some x ∨ w7.heap.size ≤ x) (fun _ => False) rfl rfl rfl (fun _ hk => hk.elim) (fun x hx => .inr hx) (HX7.out.R (fun x hx => .inl hx)) (Below.refl _ _) (Nat.zero_le _) (by have := HTl.out; omega) ?_))
          intro v8 w8 hR hB hg hat
          have HR8 := Aside0.mk hR
          have HG8 := Aside0.mk hg
          have HA8 := Aside0.mk hat
          have HW := Aside0.mk (show wrap64 ((j : Int) + 1) = ((j + 1 : Nat) : Int) from wrap_succ j (by have := HDl.out; omega))
          have HR9 := Aside0.mk (RowX.of_R rfl HR8.out)
          clear hR hB hg hat
          go_wp2_with fail
          have T8 : Turn (fun k => u6.ownBlock = some k) w7 w8 := (Turn.refl _ w7).grown HG8.out (fun k hk => .inl hk)
          have e1 : (D.take (j + 1)).map (·.key) = (D.take j).map (·.key) ++ [e.key] := by rw [List.take_add_one, HE.out]; simp
          refine ⟨⟨j + 1, by omega, congrArg _ HW.out, ⟨by rw [e1]; have := HR9.out; rw [← List.map_take] at this; exact this, fun k hk => ?_, ?_, HT7.out.trans T8 (fun k hk => .inr (HQ.out.2.1 k hk))⟩⟩, meas_succ hjl (by have := HDl.out; omega)⟩
          · rcases HA8.out with h | ⟨b, hb, hl⟩
            · exact HQ.out.2.1 k (by rw [← h]; exact hk)
            · rw [hb] at hk
              cases hk
              exact Nat.le_trans HT7.out.size hl
          · have := HI7.out.turn T8 (fun k hk e => by have h1 := HI5.out.lt k hk; have h2 := HQ.out.2.1 k e; omega)
            rw [dels_take HE.out]
            exact this
        · obtain rfl : j = D.length := by omega
          have d1 : decide ((D.length : Int) < (D.length : Int)) = false := decide_eq_false (by omega)
          go_wp2_with fail
          go_ret
          have h1 := HQ.out.1
          have h3 := HQ.out.2.2.1
          rw [List.take_length] at h1 h3
          rw [HDe.out, dels_due OK.out.keys] at h3
          refine ⟨u6, rfl, ?_, fun k hk => Nat.le_trans HT5.out.size (HQ.out.2.1 k hk), ⟨mb, ?_⟩, (HT5.out.mono (fun k hk => hk ▸ H1.out.sg)).trans HQ.out.2.2.2 (fun k hk => .inl hk)⟩
          · rw [← HTn.out, ← HDe.out]
            exact h1
          · unfold tickC
            rw [← HTn.out]
            exact h3
    · intro i v w2 cnt2 hi hl hv hrg2 hlt ht hs hen
      obtain ⟨e, he, rfl, rfl⟩ := mapOf_mem hv
      have hen' : (Instr.entry (.pointer (some ⟨r, 0, none⟩))).run Try.prog w2 = .ok (.tuple #[.int .i64 e.key, .agg #[.int .i64 e.key, .int .i64 e.due, .int .i64 e.since]]) w2 := hen
      have HR2 := Aside0.mk hrg2
      have HE := Aside0.mk he
      have HL := Aside0.mk hl
      have HLT := Aside0.mk hlt
      have HT2 := Aside0.mk (HP.out.2.2.2.1.trans ht (fun k hk => .inr (by rw [hk, ← HRr.out]; exact Nat.le_refl _)))
      have HX2 := Aside0.mk (HP.out.1.turn ht (fun k hk e => (HP.out.2.1.row HP.out.1).2 (by rw [hk, e])))
      clear hen hs ht hrg2 hv he hl hlt
      go_upto_region 8 with (fail)
      obtain ⟨E, hE⟩ : ∃ E, E = w2.heap.size := ⟨_, rfl⟩
      rw [← hE]
      refine wp_world (fun W => RowX kEn 54 W u3 xs ∧ RangeZ Try.prog 3 .i64 W mb r c.L.length (mapOf c.L) (fun j => left j && !(j == e.key)) cnt2 ∧ Turn (fun _ => False) W1 W ∧ W.heap[E]? = some (.cells #[.int .i64 e.key, .int .i64 e.due, .int .i64 e.since] 54 (0, 0))) ⟨HX2.out.turn ((Turn.refl (fun _ => False) w2).alloc _) (fun _ _ x => x), HR2.out.turn ((Turn.refl (fun _ => False) w2).alloc _) (fun x => x) (fun x => x), (HT2.out.alloc _), by rw [hE]; exact blk_new _ _⟩ ?_
      rintro W3 ⟨hx, hrg, ht, hb⟩
      have k0 : W3.cell? ⟨E, 0, none⟩ = some (.int .i64 e.key) := (blk_cell hb 0).trans rfl
      have k1 : W3.cell? ⟨E, 1, none⟩ = some (.int .i64 e.due) := (blk_cell hb 1).trans rfl
      have k2 : W3.cell? ⟨E, 2, none⟩ = some (.int .i64 e.since) := (blk_cell hb 2).trans rfl
      have g0 : W3.cell? ⟨g, 0, none⟩ = some (.int .i64 T) := ht.cell H1.out.c0 (fun x => x)
      have HX3 := Aside0.mk hx
      have HR3 := Aside0.mk hrg
      have HT3 := Aside0.mk ht
      have HLt := Aside0.mk (show cnt2 < wr.rangeLeft mb r by rw [HP.out.2.1.left_eq]; exact HLT.out)
      have HXl := Aside0.mk (show xs.length ≤ 1000 by
        exact Nat.le_trans (col_len OK.out.keys HP.out.2.2.1) OK.out.len)
      clear hx hrg ht hb hE HX2 HR2 HT2 HLT
      refine start_ (n := 7) (S := fun w' => w'.cell? ⟨E, 1, none⟩ = some (.int .i64 e.due) ∧ w'.cell? ⟨g, 0, none⟩ = some (.int .i64 T)) (ds := []) #[false, false, false, false, false, false, false] (by kernel_rfl) rfl rfl ⟨k1, g0⟩ (fun hHeld => ?_)
      refine pure_ (i := 0) (N := some 27) (v := ?_) (a' := ?_) #[true, false, false, false, false, false, false] rfl rfl (by kernel_rfl) (fun _ _ _ h => h) (Or.inl ⟨by rfl, ?_⟩) ?_ ?_
      rotate_left
      · intro w'
        go_simp
        with_reducible rfl
      rotate_left
      · simp only [Act.put, List.setIfInBounds_toArray, List.set_cons_zero, List.set_cons_succ, i64_w, i32_w]
        rfl
      refine pure_ (i := 2) (N := some 29) (v := ?_) (a' := ?_) #[true, false, true, false, false, false, false] rfl rfl (by kernel_rfl) (fun _ _ _ h => h) (Or.inl ⟨by rfl, ?_⟩) ?_ ?_
      rotate_left
      · intro w'
        go_simp
        with_reducible rfl
      rotate_left
      · simp only [Act.put, List.setIfInBounds_toArray, List.set_cons_zero, List.set_cons_succ, i64_w, i32_w]
        rfl
      refine pure_ (i := 3) (N := some 30) (v := ?_) (a' := ?_) #[true, false, true, true, false, false, false] rfl rfl (by kernel_rfl) (fun _ _ _ h => h) (Or.inl ⟨by rfl, ?_⟩) ?_ ?_
      rotate_left
      · intro w'
        go_simp
        with_reducible rfl
      rotate_left
      · simp only [Act.put, List.setIfInBounds_toArray, List.set_cons_zero, List.set_cons_succ, i64_w, i32_w]
        rfl
      refine pure_ (i := 4) (N := some 31) (v := ?_) (a' := ?_) #[true, false, true, true, true, false, false] rfl rfl (by kernel_rfl) (fun _ _ _ h => h) (Or.inl ⟨by rfl, ?_⟩) ?_ ?_
      rotate_left
      · intro w'
        go_simp
        with_reducible rfl
      rotate_left
      · simp only [Act.put, List.setIfInBounds_toArray, List.set_cons_zero, List.set_cons_succ, i64_w, i32_w]
        rfl
      refine take_ (i := 1) (N := some 28) (v := ?_) (a' := ?_) #[true, true, true, true, true, false, false] rfl rfl (by kernel_rfl) (fun _ _ _ h => h) (Or.inl ⟨by rfl, ?_⟩) hHeld ?_ ?_
      rotate_left
      · rintro w' ⟨s0, s1⟩
        go_simp
        with_reducible rfl
      rotate_left
      · simp only [Act.put, List.setIfInBounds_toArray, List.set_cons_zero, List.set_cons_succ, i64_w, i32_w]
        rfl
      refine take_ (i := 5) (N := some 32) (v := ?_) (a' := ?_) #[true, true, true, true, true, true, false] rfl rfl (by kernel_rfl) (fun _ _ _ h => h) (Or.inl ⟨by rfl, ?_⟩) hHeld ?_ ?_
      rotate_left
      · rintro w' ⟨s0, s1⟩
        go_simp
        with_reducible rfl
      rotate_left
      · simp only [Act.put, List.setIfInBounds_toArray, List.set_cons_zero, List.set_cons_succ, i64_w, i32_w]
        rfl
      refine pure_ (i := 6) (N := some 33) (v := ?_) (a' := ?_) #[true, true, true, true, true, true, true] rfl rfl (by kernel_rfl) (fun _ _ _ h => h) (Or.inl ⟨by rfl, ?_⟩) ?_ ?_
      rotate_left
      · intro w'
        go_simp
        with_reducible rfl
      rotate_left
      · simp only [Act.put, List.setIfInBounds_toArray, List.set_cons_zero, List.set_cons_succ, i64_w, i32_w]
        rfl
      refine done_ (by kernel_rfl) ?_
      by_cases hd : e.due = T
      · have d1 : (e.due == T) = true := beq_iff_eq.mpr hd
        have HD := Aside0.mk hd
        clear hd g0
        go_wp2_with (at_builtin; go_loud (refine Kd.R_append kEn (W := W3.drew) (w0 := W3.drew) 0 rfl (.tmp 34) (.tmp 36) 56 54 (.agg #[(.int .i64 0), (.int .i64 0), (.int .i64 0)]) 24 rfl Try.underlying56 info54' rfl (by decide) (by decide) u3 xs e _ (fun x => u3.ownBlock = some x ∨ W3.heap.size ≤ x) (fun _ => False) rfl rfl (kEn_mkM _ _ _ e) (fun _ hk => hk.elim) (fun x hx => .inr hx) ((HX3.out.keep (w1 := W3.drew) (fun _ _ => rfl)).R (fun x hx => .inl hx)) (Below.refl _ _) (Nat.zero_le _) (by have := HXl.out; omega) ?_))
        intro v4 w4 hR hB hg hat
        have HR4 := Aside0.mk hR
        have HG4 := Aside0.mk hg
        have HA4 := Aside0.mk hat
        clear hR hB hg hat
        go_wp2_with fail
        have T4 : Turn (fun k => u3.ownBlock = some k) W3 w4 := ((Turn.refl _ W3).drew).grown HG4.out (fun k hk => .inl hk)
        have hrow := HR3.out.row HX3.out
        have r4 := HR3.out.turn T4 hrow.1 hrow.2
        refine ⟨⟨xs ++ [e], _, _, ⟨RowX.of_R kEnE HR4.out, r4, col_take OK.out.keys HP.out.2.2.1 HE.out HL.out HD.out, HT3.out.trans T4 (fun k hk => .inr (HP.out.2.2.2.2 k hk)), fun k hk => ?_⟩⟩, by rw [r4.left_eq]; exact HLt.out⟩
        rcases HA4.out with h | ⟨b, hb, hl⟩
        · exact HP.out.2.2.2.2 k (by rw [← h]; exact hk)
        · rw [hb] at hk
          cases hk
          exact Nat.le_trans HT3.out.size hl
      · have d1 : (e.due == T) = false := beq_eq_false_iff_ne.mpr hd
        have HD := Aside0.mk hd
        clear hd
        go_wp2_with fail
        have r4 := HR3.out.turn (w1 := W3.drew) ((Turn.refl (fun _ => False) W3).drew) (fun x => x) (fun x => x)
        exact ⟨⟨xs, _, _, ⟨HX3.out.keep (fun _ _ => rfl), r4, col_skip OK.out.keys HP.out.2.2.1 HE.out HD.out, HT3.out.drew, HP.out.2.2.2.2⟩⟩, by rw [r4.left_eq]; exact HLt.out⟩
end Go.Proofs.Ytbmommikjiikaaa.P
