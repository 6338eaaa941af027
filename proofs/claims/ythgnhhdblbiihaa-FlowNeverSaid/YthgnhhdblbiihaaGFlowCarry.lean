/- flow.Carry: the walk. -/
import Derived.Test.YthgnhhdblbiihaaGFlowPlan
import Derived.ScopeJumps
namespace Go.Proofs.Ythgnhhdblbiihaa.P
open Go.RowKit Go.Proofs.YthgnhhdblbiihaaW.PrintWords Go.Proofs.YthgnhhdblbiihaaW.PrintLast Go.Proofs.YthgnhhdblbiihaaW.PrintMore
set_option linter.unusedVariables false
set_option linter.unusedSimpArgs false

theorem results_ct1 {P : Program} {fn : Func} {p q : Tmp} {ty : TypeId} (h : fn.results = #[.cell p ty, .tmp q]) (tmps : Array Value) (w : World) (g : Nat) (t : TypeId) (cs : Array Value) (fr : Nat × Nat) (d : TypeDesc)
    (hp : tmps.getD p undef = .pointer (some ⟨g, 0, none⟩)) (hg : w.heap[g]? = some (.cells cs t fr))
    (hu : P.underlying ty = some d) (hd : (match d with | .struct _ | .array _ _ => true | _ => false) = true) (hi : (P.info? ty).map (·.size) = some cs.size) :
    (results fn tmps).run P w = .ok (.tuple #[.agg cs, tmps.getD q undef]) w := by
  have hp' : tmps[p]?.getD undef = .pointer (some ⟨g, 0, none⟩) := by simpa using hp
  simp [results, h, hp', asAddr, run_loadVar_row w g t ty cs fr d hg hu hd hi]
set_option maxHeartbeats 8000000 in
set_option maxRecDepth 100000 in
theorem flow_Send_no.calls (m : ByteArray) (e0 : Int) (w : World) (h : (m.size = 0 ∧ e0 = 2) ∨ (4095 < m.size ∧ e0 = 9)) :
    Calls Try.prog 47 #[.string m] w fun e w' => e = .returned (.tuple #[.pointer none, .int .i64 e0]) ∧ Below w.heap.size w w' := by
  have HS := Aside0.mk (show seg_Split.f m = some ([], e0) by unfold seg_Split.f; rcases h with ⟨h, rfl⟩ | ⟨h, rfl⟩; rw [if_pos h]; rw [if_neg (by omega), if_pos h])
  have ue : (e0 != 0) = true := by rcases h with ⟨h, rfl⟩ | ⟨h, rfl⟩ <;> rfl
  have hu := Try.underlying107
  clear h
  go_enter Try.func47, Try.ntmps47
  go_wp2_with fail
  refine (seg_Split.calls m [] e0 w HS.out).mono ?_
  rintro e w1 ⟨v0, rfl, hR, hb1⟩
  obtain ⟨A, c, rfl, hc, hC⟩ := Kd.R_reads hR
  have HW := Aside0.mk hb1
  clear hR hC hb1
  go_wp2_with fail
  go_ret2
  exact ⟨rfl, HW.out⟩

set_option maxHeartbeats 8000000 in
set_option maxRecDepth 100000 in
theorem flow_Carry_no.calls (m : ByteArray) (room block gap e0 : Int) (w : World) (h : (m.size = 0 ∧ e0 = 2) ∨ (4095 < m.size ∧ e0 = 9)) :
    Calls Try.prog 29 #[.string m, .int .i64 room, .int .i64 block, .int .i64 gap] w fun e w' => e = .returned (.tuple #[.agg #[.string ⟨#[]⟩, .int .i64 0, .int .i64 0, .int .i64 0], .int .i64 e0]) ∧ Below w.heap.size w w' := by
  have ue : (e0 != 0) = true := by rcases h with ⟨h, rfl⟩ | ⟨h, rfl⟩ <;> rfl
  have HH := Aside0.mk h
  have hu := Try.underlying57
  clear h
  go_enter Try.func29, Try.ntmps29
  go_wp2_with fail
  refine wp_scope_straight ?_
  go_wp2_with fail
  refine (flow_Send_no.calls m e0 _ HH.out).mono ?_
  rintro e w1 ⟨rfl, hb1⟩
  have HW := Aside0.mk hb1
  have h8 := (hb1.block w.heap.size (by simp)).trans (blk_new w (.cells #[.string ⟨#[]⟩, .int .i64 0, .int .i64 0, .int .i64 0] 57))
  have c0 := (blk_cell h8 0).trans rfl
  have c1 := (blk_cell h8 1).trans rfl
  have c2 := (blk_cell h8 2).trans rfl
  have c3 := (blk_cell h8 3).trans rfl
  have z := fun j => blk_frozen h8 j
  have H8 := Aside0.mk h8
  clear hb1 h8
  go_wp2_with fail
  have hg := blk_set (blk_set (blk_set (blk_set H8.out 0 (.string ⟨#[]⟩)) 1 (.int .i64 0)) 2 (.int .i64 0)) 3 (.int .i64 0)
  simp only [List.setIfInBounds_toArray, List.set_cons_zero, List.set_cons_succ] at hg
  simp only [Exit.then, Exit.noGoto]
  refine bodyPost_ret (results_ct1 (by rfl) _ _ w.heap.size 57 #[.string ⟨#[]⟩, .int .i64 0, .int .i64 0, .int .i64 0] (0, 0) _ (by rfl) hg hu (by rfl) (by kernel_rfl)) rfl ?_
  refine ⟨rfl, ?_⟩
  have hA := (below_alloc (Below.refl w.heap.size w) (.cells #[.string ⟨#[]⟩, .int .i64 0, .int .i64 0, .int .i64 0] 57)).trans (HW.out.mono (by simp))
  exact ((((hA.setCell (Nat.le_refl _) _).setCell (Nat.le_refl _) _).setCell (Nat.le_refl _) _).setCell (Nat.le_refl _) _)

theorem ca_over {m : ByteArray} {room b q : Int} {x1 : ByteArray} {x2 x3 x4 x5 : Int} {told : Nat} {left gp : Int} {free : Bool} {last : Int} {s3 : ByteArray} {s4 s5 s6 : Int} {s7 : ByteArray} {s8 : Bool} {p f t : Int}
    (h : CaOk m room b q (x1, x2, x3, x4, x5) told left gp free last s3 s4 s5 s6 s7 s8 p f t) (ht : told = (splitL m).length) (h1 : 1 ≤ m.size) : s7 = m ∧ x1 = m ∧ x2 = p ∧ x3 = f ∧ x4 = t ∧ x5 = 0 := by
  have hlen := split_len m
  rcases h with ⟨rfl, _⟩ | ⟨j, rfl, hj, h8, _⟩ | ⟨h, h7, hR, _⟩
  · split at hlen <;> omega
  · rw [if_neg (by omega)] at hlen; omega
  · simp only [Prod.mk.injEq] at hR
    exact ⟨h7, hR⟩
theorem ca_lt {m : ByteArray} {room b q : Int} {R : ByteArray × Int × Int × Int × Int} {told : Nat} {left gp : Int} {free : Bool} {last : Int} {s3 : ByteArray} {s4 s5 s6 : Int} {s7 : ByteArray} {s8 : Bool} {p f t : Int}
    (h : CaOk m room b q R told left gp free last s3 s4 s5 s6 s7 s8 p f t) (h1 : 1 ≤ m.size) : told ≤ (splitL m).length := by
  have hlen := split_len m
  rcases h with ⟨rfl, _⟩ | ⟨j, rfl, hj, h8, _⟩ | ⟨h, _⟩
  · omega
  · rw [if_neg (by omega)] at hlen; omega
  · omega
/-- The things that Carry made, apart. -/
structure CaN (w0 : World) (go gi gt g8 : Nat) (A : Option Addr) (n : Nat) : Prop where
  oi : go ≠ gi
  ot : go ≠ gt
  o8 : go ≠ g8
  it : gi ≠ gt
  i8 : gi ≠ g8
  t8 : gt ≠ g8
  o0 : w0.heap.size ≤ go
  t0 : w0.heap.size ≤ gt
  r0 : w0.heap.size ≤ g8
  ai : ∀ ad, A = some ad → 0 < n → ad.block ≠ gi ∧ ad.block ≠ gt ∧ ad.block ≠ g8
structure CaI (w0 W : World) (go gi gt g8 : Nat) (A : Option Addr) (c : Nat) (P : List ByteArray) (told : Nat) (waits : Bool) (left gp : Int) (free : Bool) (last s0 s1 s2 : Int) (s3 : ByteArray) (s4 s5 s6 : Int) (s7 : ByteArray) (s8 : Bool) (x : ByteArray) (p f t : Int) : Prop where
  out : OutI W go A c P told waits false left gp free last
  inn : IsS99 w0 W gi s0 s1 s2 s3 s4 s5 s6 s7 s8
  trip : W.heap[gt]? = some (.cells #[.string x, .int .i64 p, .int .i64 f, .int .i64 t] 57 (0, 0))
  res : W.heap[g8]? = some (.cells #[.string ⟨#[]⟩, .int .i64 0, .int .i64 0, .int .i64 0] 57 (0, 0))
  below : Below w0.heap.size w0 W
section
variable {w0 W W' : World} {go gi gt g8 : Nat} {A : Option Addr} {c : Nat} {P : List ByteArray} {told told' : Nat} {waits waits' : Bool} {left gp left' gp' : Int} {free free' : Bool} {last last' s0 s1 s2 : Int} {s3 : ByteArray} {s4 s5 s6 : Int} {s7 : ByteArray} {s8 : Bool} {x x' : ByteArray} {p f t p' f' t' t0 t1 t2 : Int} {t3 : ByteArray} {t4 t5 t6 : Int} {t7 : ByteArray} {t8 : Bool}
theorem CaI.drew (h : CaI w0 W go gi gt g8 A c P told waits left gp free last s0 s1 s2 s3 s4 s5 s6 s7 s8 x p f t) : CaI w0 W.drew go gi gt g8 A c P told waits left gp free last s0 s1 s2 s3 s4 s5 s6 s7 s8 x p f t :=
  ⟨h.out.drew, h.inn.drew, h.trip, h.res, h.below.drew⟩
theorem CaI.onOut (h : CaI w0 W go gi gt g8 A c P told waits left gp free last s0 s1 s2 s3 s4 s5 s6 s7 s8 x p f t) (hn : CaN w0 go gi gt g8 A P.length)
    (ho : OutI W' go A c P told' waits' false left' gp' free' last') (hb : Below w0.heap.size w0 W') (hk : KeepBut W W' go none) : CaI w0 W' go gi gt g8 A c P told' waits' left' gp' free' last' s0 s1 s2 s3 s4 s5 s6 s7 s8 x p f t :=
  ⟨ho, ⟨hk.blk h.inn.1 hn.oi.symm (by simp), h.inn.2⟩, hk.blk h.trip hn.ot.symm (by simp), hk.blk h.res hn.o8.symm (by simp), hb⟩
theorem CaI.onIn (h : CaI w0 W go gi gt g8 A c P told waits left gp free last s0 s1 s2 s3 s4 s5 s6 s7 s8 x p f t) (hn : CaN w0 go gi gt g8 A P.length)
    (hi : IsS99 w0 W' gi t0 t1 t2 t3 t4 t5 t6 t7 t8) (hb : Below w0.heap.size w0 W') (hk : KeepBut W W' gi none) : CaI w0 W' go gi gt g8 A c P told waits left gp free last t0 t1 t2 t3 t4 t5 t6 t7 t8 x p f t :=
  ⟨h.out.keep hk hn.oi (fun ad e hl => (hn.ai ad e hl).1), hi, hk.blk h.trip hn.it.symm (by simp), hk.blk h.res hn.i8.symm (by simp), hb⟩
theorem CaI.onTrip (h : CaI w0 W go gi gt g8 A c P told waits left gp free last s0 s1 s2 s3 s4 s5 s6 s7 s8 x p f t) (hn : CaN w0 go gi gt g8 A P.length)
    (ht : W'.heap[gt]? = some (.cells #[.string x', .int .i64 p', .int .i64 f', .int .i64 t'] 57 (0, 0))) (hb : Below w0.heap.size w0 W') (hk : KeepBut W W' gt none) : CaI w0 W' go gi gt g8 A c P told waits left gp free last s0 s1 s2 s3 s4 s5 s6 s7 s8 x' p' f' t' :=
  ⟨h.out.keep hk hn.ot (fun ad e hl => (hn.ai ad e hl).2.1), ⟨hk.blk h.inn.1 hn.it (by simp), h.inn.2⟩, ht, hk.blk h.res hn.t8.symm (by simp), hb⟩
end
def cellN (W : World) (g i : Nat) : Nat := match W.cell? ⟨g, i, none⟩ with | some (.int _ q) => q.toNat | _ => 0
theorem CaI.mu {w0 W : World} {go gi gt g8 : Nat} {A : Option Addr} {c : Nat} {P : List ByteArray} {told : Nat} {waits : Bool} {left gp : Int} {free : Bool} {last s0 s1 s2 : Int} {s3 : ByteArray} {s4 s5 s6 : Int} {s7 : ByteArray} {s8 : Bool} {x : ByteArray} {p f t : Int}
    (h : CaI w0 W go gi gt g8 A c P told waits left gp free last s0 s1 s2 s3 s4 s5 s6 s7 s8 x p f t) : 400000 - (cellN W gt 1 + cellN W gt 3) = 400000 - (p.toNat + t.toNat) := by
  have h1 : W.cell? ⟨gt, 1, none⟩ = some (.int .i64 p) := (blk_cell h.trip 1).trans rfl
  have h3 : W.cell? ⟨gt, 3, none⟩ = some (.int .i64 t) := (blk_cell h.trip 3).trans rfl
  unfold cellN
  rw [h1, h3]

theorem arrN (T : Array Value) (n : Nat) (h : T.size = n) : T = (List.ofFn fun i : Fin n => T.getD i.val undef).toArray := by
  subst h
  apply Array.ext
  · simp
  · intro i h1 h2
    simp [h1]
theorem arr87 (T : Array Value) (h : T.size = 87) : ∃ u : Nat → Value, T = #[u 0, u 1, u 2, u 3, u 4, u 5, u 6, u 7, u 8, u 9, u 10, u 11, u 12, u 13, u 14, u 15, u 16, u 17, u 18, u 19, u 20, u 21, u 22, u 23, u 24, u 25, u 26, u 27, u 28, u 29, u 30, u 31, u 32, u 33, u 34, u 35, u 36, u 37, u 38, u 39, u 40, u 41, u 42, u 43, u 44, u 45, u 46, u 47, u 48, u 49, u 50, u 51, u 52, u 53, u 54, u 55, u 56, u 57, u 58, u 59, u 60, u 61, u 62, u 63, u 64, u 65, u 66, u 67, u 68, u 69, u 70, u 71, u 72, u 73, u 74, u 75, u 76, u 77, u 78, u 79, u 80, u 81, u 82, u 83, u 84, u 85, u 86] ∧ ∀ k, k < 87 → u k = T.getD k undef := by
  refine ⟨fun k => T.getD k undef, ?_, fun _ _ => rfl⟩
  exact arrN T 87 h
/-- What of the frame stays from pass to pass. -/
structure ActC (a : Act) (m : ByteArray) (room block gap : Int) (go gi gt g8 : Nat) : Prop where
  d : a.defers = []
  z : a.tmps.size = 87
  a0 : a.tmps.getD 0 undef = .string m
  a1 : a.tmps.getD 1 undef = .int .i64 room
  a2 : a.tmps.getD 2 undef = .int .i64 block
  a3 : a.tmps.getD 3 undef = .int .i64 gap
  a8 : a.tmps.getD 8 undef = .pointer (some ⟨g8, 0, none⟩)
  a9 : a.tmps.getD 9 undef = .int .i64 0
  a10 : a.tmps.getD 10 undef = .pointer (some ⟨go, 0, none⟩)
  a12 : a.tmps.getD 12 undef = .pointer (some ⟨gi, 0, none⟩)
  a13 : a.tmps.getD 13 undef = .pointer (some ⟨gt, 0, none⟩)
theorem ActC.open {a : Act} {m : ByteArray} {room block gap : Int} {go gi gt g8 : Nat} (h : ActC a m room block gap go gi gt g8) : ∃ u : Nat → Value, a = { tmps := #[.string m, .int .i64 room, .int .i64 block, .int .i64 gap, u 4, u 5, u 6, u 7, .pointer (some ⟨g8, 0, none⟩), .int .i64 0, .pointer (some ⟨go, 0, none⟩), u 11, .pointer (some ⟨gi, 0, none⟩), .pointer (some ⟨gt, 0, none⟩), u 14, u 15, u 16, u 17, u 18, u 19, u 20, u 21, u 22, u 23, u 24, u 25, u 26, u 27, u 28, u 29, u 30, u 31, u 32, u 33, u 34, u 35, u 36, u 37, u 38, u 39, u 40, u 41, u 42, u 43, u 44, u 45, u 46, u 47, u 48, u 49, u 50, u 51, u 52, u 53, u 54, u 55, u 56, u 57, u 58, u 59, u 60, u 61, u 62, u 63, u 64, u 65, u 66, u 67, u 68, u 69, u 70, u 71, u 72, u 73, u 74, u 75, u 76, u 77, u 78, u 79, u 80, u 81, u 82, u 83, u 84, u 85, u 86], defers := [] } := by
  obtain ⟨u, hu, hk⟩ := arr87 a.tmps h.z
  refine ⟨u, ?_⟩
  have e0 := (hk 0 (by omega)).trans h.a0
  have e1 := (hk 1 (by omega)).trans h.a1
  have e2 := (hk 2 (by omega)).trans h.a2
  have e3 := (hk 3 (by omega)).trans h.a3
  have e8 := (hk 8 (by omega)).trans h.a8
  have e9 := (hk 9 (by omega)).trans h.a9
  have e10 := (hk 10 (by omega)).trans h.a10
  have e12 := (hk 12 (by omega)).trans h.a12
  have e13 := (hk 13 (by omega)).trans h.a13
  have hd := h.d
  rw [e0, e1, e2, e3, e8, e9, e10, e12, e13] at hu
  cases a
  subst hu hd
  rfl
def tripOf (a : Act) : Nat := match a.tmps.getD 13 undef with | .pointer (some p) => p.block | _ => 0
def muC (a : Act) (W : World) : Nat := 400000 - (cellN W (tripOf a) 1 + cellN W (tripOf a) 3)
theorem jump_mono {P : Program} {c : Code} {l : Nat} {J J' : Act → World → Prop} {Q : Exit → Act → World → Prop} {a : Act} {w : World} (h : c.wp P (Exit.jump l J' Q) a w) (hj : ∀ a w, J' a w → J a w) : c.wp P (Exit.jump l J Q) a w := by
  refine wp_mono h ?_
  intro e a w he
  cases e <;> first | exact ⟨he.1, hj _ _ he.2⟩ | exact he
theorem wp_scope_again {P : Program} {a : Act} {w : World} {Q : Exit → Act → World → Prop} {c rest : Code} (l : Nat) (J : Act → World → Prop) (μ : Act → World → Nat) (hf : findLabel c l = some (Code.skip.seq rest))
    (pass : ∀ a w, J a w → rest.wp P (Exit.jump l (fun a' w' => J a' w' ∧ μ a' w' < μ a w) Q) a w)
    (first : (∀ a w, J a w → rest.wp P (Exit.jump l J Q) a w) → c.wp P (Exit.jump l J Q) a w) : (Code.scope c).wp P Q a w :=
  wp_scope_jumps l J μ hf (first fun a w h => jump_mono (pass a w h) fun _ _ h => h.1) fun a w h => wp_seq (wp_skip (pass a w h))

def CaJ (w0 : World) (m : ByteArray) (room block gap b q : Int) (R : ByteArray × Int × Int × Int × Int) (a' : Act) (W : World) : Prop := ∃ (go gi gt g8 : Nat) (A : Option Addr) (c told : Nat) (left gp : Int) (free : Bool) (last : Int) (s3 : ByteArray) (s4 s5 s6 : Int) (s7 : ByteArray) (s8 : Bool) (p f t : Int),
      ActC a' m room block gap go gi gt g8 ∧ CaN w0 go gi gt g8 A (splitL m).length ∧ CaI w0 W go gi gt g8 A c (splitL m) told false left gp free last room b q s3 s4 s5 s6 s7 s8 ⟨#[]⟩ p f t ∧ CaOk m room b q R told left gp free last s3 s4 s5 s6 s7 s8 p f t
theorem CaJ.of {w0 : World} {m : ByteArray} {room block gap b q : Int} {R : ByteArray × Int × Int × Int × Int} {a' : Act} {W : World} {go gi gt g8 : Nat} {A : Option Addr} {c told : Nat} {left gp : Int} {free : Bool} {last : Int} {s3 : ByteArray} {s4 s5 s6 : Int} {s7 : ByteArray} {s8 : Bool} {p f t : Int}
    (h1 : ActC a' m room block gap go gi gt g8) (h2 : CaN w0 go gi gt g8 A (splitL m).length) (h3 : CaI w0 W go gi gt g8 A c (splitL m) told false left gp free last room b q s3 s4 s5 s6 s7 s8 ⟨#[]⟩ p f t) (h4 : CaOk m room b q R told left gp free last s3 s4 s5 s6 s7 s8 p f t) : CaJ w0 m room block gap b q R a' W :=
  ⟨go, gi, gt, g8, A, c, told, left, gp, free, last, s3, s4, s5, s6, s7, s8, p, f, t, h1, h2, h3, h4⟩
/-- Back at the label. -/
theorem CaJ.again {w0 : World} {m : ByteArray} {room block gap b q : Int} {R : ByteArray × Int × Int × Int × Int} {a a' : Act} {W W' : World} {go gi gt g8 : Nat} {A : Option Addr} {c told : Nat} {left gp : Int} {free : Bool} {last : Int} {s3 : ByteArray} {s4 s5 s6 : Int} {s7 : ByteArray} {s8 : Bool} {p f t : Int}
    {P : List ByteArray} {told' : Nat} {waits' : Bool} {left' gp' : Int} {free' : Bool} {last' s0' s1' s2' : Int} {s3' : ByteArray} {s4' s5' s6' : Int} {s7' : ByteArray} {s8' : Bool} {x' : ByteArray} {p' f' t' : Int}
    (hm : m.size ≤ 4095) (hbb : 0 ≤ b ∧ b ≤ 255) (hqq : 0 ≤ q ∧ q ≤ 255)
    (hP : P = splitL m) (h1 : ActC a' m room block gap go gi gt g8) (h2 : CaN w0 go gi gt g8 A P.length) (h3 : CaI w0 W' go gi gt g8 A c P told false left gp free last room b q s3 s4 s5 s6 s7 s8 ⟨#[]⟩ p f t) (h4 : CaOk m room b q R told left gp free last s3 s4 s5 s6 s7 s8 p f t)
    (ha : tripOf a = gt) (h3' : CaI w0 W go gi gt g8 A c P told' waits' left' gp' free' last' s0' s1' s2' s3' s4' s5' s6' s7' s8' x' p' f' t') (hlt : p'.toNat + t'.toNat < p.toNat + t.toNat) : CaJ w0 m room block gap b q R a' W' ∧ muC a' W' < muC a W := by
  subst hP
  have hb := ca_bounds hm hbb hqq h4
  refine ⟨.of h1 h2 h3 h4, ?_⟩
  have e : tripOf a' = gt := by unfold tripOf; rw [h1.a13]
  unfold muC
  rw [ha, e, h3.mu, h3'.mu]
  omega

set_option maxHeartbeats 8000000 in
set_option maxRecDepth 100000 in
theorem flow_Carry_yes.calls (m : ByteArray) (room block gap : Int) (w : World) (h1 : 1 ≤ m.size) (h2 : m.size ≤ 4095) (x1 : ByteArray) (x2 x3 x4 x5 : Int) (hR : carryP m room block gap = (x1, x2, x3, x4, x5)) :
    Calls Try.prog 29 #[.string m, .int .i64 room, .int .i64 block, .int .i64 gap] w fun e w' => e = .returned (.tuple #[.agg #[.string x1, .int .i64 x2, .int .i64 x3, .int .i64 x4], .int .i64 x5]) ∧ Below w.heap.size w w' := by
  have hu := Try.underlying57
  obtain ⟨b, hb⟩ : ∃ b, b = clampB block := ⟨_, rfl⟩
  obtain ⟨q, hq⟩ : ∃ q, q = clampB gap := ⟨_, rfl⟩
  have hbb : 0 ≤ b ∧ b ≤ 255 := by rw [hb]; unfold clampB mn mx; split <;> split <;> omega
  have hqq : 0 ≤ q ∧ q ≤ 255 := by rw [hq]; unfold clampB mn mx; split <;> split <;> omega
  have HF := Aside0.mk (And.intro h1 (And.intro h2 (And.intro hb (And.intro hq (And.intro hbb (And.intro hqq hR))))))
  clear h1 h2 hb hq hbb hqq hR
  go_enter Try.func29, Try.ntmps29
  go_wp2_with fail
  refine wp_scope_again 0 (CaJ w m room block gap b q (x1, x2, x3, x4, x5)) muC rfl ?_ ?_
  · rintro a' W ⟨go, gi, gt, g8, A, c, told, left, gp, free, last, s3, s4, s5, s6, s7, s8, p, f, t, hA, hN, hI, hK⟩
    obtain ⟨u, rfl⟩ := hA.open
    clear hA
    have HN := Aside0.mk hN
    have HI := Aside0.mk hI
    have HK := Aside0.mk hK
    have HBd := Aside0.mk (ca_bounds HF.out.2.1 HF.out.2.2.2.2.1 HF.out.2.2.2.2.2.1 hK)
    obtain ⟨P, hP⟩ : ∃ P, P = splitL m := ⟨_, rfl⟩
    rw [← hP] at HN HI hI
    have HP := Aside0.mk hP
    have c1 : W.cell? ⟨gt, 1, none⟩ = some (.int .i64 p) := (blk_cell hI.trip 1).trans rfl
    have c3 : W.cell? ⟨gt, 3, none⟩ = some (.int .i64 t) := (blk_cell hI.trip 3).trans rfl
    have z := fun j => blk_frozen hI.trip j
    clear hN hI hK hP
    go_wp2_with fail
    refine (flow_Over.calls HI.out.out).mono ?_
    rintro e W1 ⟨rfl, rfl⟩
    have HI1 := Aside0.mk HI.out.drew
    by_cases hend : told = P.length
    · have uo : ((told : Int) == (P.length : Int)) = true := beq_iff_eq.2 (by omega)
      clear c1 c3 z
      go_wp2_with fail
      refine (flow_In_Msg.calls gi room b q s3 s4 s5 s6 s7 s8 s7 s8 room b q s3 s4 s5 s6 s7 s8 w _ HI1.out.inn HI1.out.below rfl).mono ?_
      rintro e W2 ⟨rfl, hi2, hb2, hk2⟩
      have HI2 := Aside0.mk (HI1.out.onIn HN.out hi2 hb2 hk2)
      have c0 : W2.cell? ⟨gt, 0, none⟩ = some (.string ⟨#[]⟩) := (blk_cell HI2.out.trip 0).trans rfl
      have z := fun j => blk_frozen HI2.out.trip j
      clear hi2 hb2 hk2
      go_upto_region 9 with (fail)
      clear c0 z
      refine wp_at (fun W' => CaI w W' go gi gt g8 A c P told false left gp free last room b q s3 s4 s5 s6 s7 s8 s7 p f t) ?_ ?_
      · refine HI2.out.onTrip HN.out ?_ (HI2.out.below.setCell HN.out.t0 _) ((KeepBut.refl _ _ _).set_ _ _)
        have := blk_set HI2.out.trip 0 (.string s7)
        simp only [List.setIfInBounds_toArray, List.set_cons_zero, List.set_cons_succ] at this
        exact this
      intro W3 h3
      have HI3 := Aside0.mk h3
      have c0 : W3.cell? ⟨gt, 0, none⟩ = some (.string s7) := (blk_cell h3.trip 0).trans rfl
      have c1 : W3.cell? ⟨gt, 1, none⟩ = some (.int .i64 p) := (blk_cell h3.trip 1).trans rfl
      have c2 : W3.cell? ⟨gt, 2, none⟩ = some (.int .i64 f) := (blk_cell h3.trip 2).trans rfl
      have c3 : W3.cell? ⟨gt, 3, none⟩ = some (.int .i64 t) := (blk_cell h3.trip 3).trans rfl
      have d0 : W3.cell? ⟨g8, 0, none⟩ = some (.string ⟨#[]⟩) := (blk_cell h3.res 0).trans rfl
      have d1 : W3.cell? ⟨g8, 1, none⟩ = some (.int .i64 0) := (blk_cell h3.res 1).trans rfl
      have d2 : W3.cell? ⟨g8, 2, none⟩ = some (.int .i64 0) := (blk_cell h3.res 2).trans rfl
      have d3 : W3.cell? ⟨g8, 3, none⟩ = some (.int .i64 0) := (blk_cell h3.res 3).trans rfl
      have z := fun j => blk_frozen h3.res j
      clear h3
      go_wp2_with fail
      have hg := blk_set (blk_set (blk_set (blk_set HI3.out.res 0 (.string s7)) 1 (.int .i64 p)) 2 (.int .i64 f)) 3 (.int .i64 t)
      simp only [List.setIfInBounds_toArray, List.set_cons_zero, List.set_cons_succ] at hg
      simp only [Exit.then, Exit.jump]
      refine bodyPost_ret (results_ct1 (by rfl) _ _ g8 57 #[.string s7, .int .i64 p, .int .i64 f, .int .i64 t] (0, 0) _ (by rfl) hg hu (by rfl) (by kernel_rfl)) rfl ?_
      obtain ⟨rfl, rfl, rfl, rfl, rfl, rfl⟩ := ca_over HK.out (by rw [← HP.out]; exact hend) HF.out.1
      exact ⟨rfl, (((HI3.out.below.setCell HN.out.r0 _).setCell HN.out.r0 _).setCell HN.out.r0 _).setCell HN.out.r0 _⟩
    · have hlt : told < P.length := by
        have := ca_lt HK.out HF.out.1
        rw [← HP.out] at this
        omega
      have uo : ((told : Int) == (P.length : Int)) = false := beq_eq_false_iff_ne.2 (by omega)
      have HW := Aside0.mk (show wrap64 (t - last) = t - last by obtain ⟨-, -, h3, -, h5⟩ := HBd.out; have h6 := (h5 (by rw [← HP.out]; exact hlt)).2; exact w64_small _ (by omega) (by omega))
      have HL := Aside0.mk hlt
      have HPL := Aside0.mk (split_bt m HF.out.2.1 told (by rw [← HP.out]; exact hlt))
      clear hend hlt
      go_upto_region 10 with (fail)
      go_wp2_with fail
      by_cases hw : free = false ∧ t - last < gp
      · have hI1 := HI1.out.out
        obtain ⟨rfl, hw2⟩ := hw
        have HW2 := Aside0.mk hw2
        refine (flow_Next_no.calls (w0 := w) t hI1 HL.out (by rw [HW.out]; exact hw2)).mono ?_
        rintro e W2 ⟨rfl, rfl⟩
        have HI2 := Aside0.mk HI1.out.drew.drew
        clear hI1 hw2
        go_wp2_with fail
        go_step3
        simp only [Exit.then, Exit.jump]
        obtain ⟨hp, hf, ht, hl, -⟩ := HBd.out
        have et : wrap64 (t + 1) = t + 1 := w64_small _ (by omega) (by omega)
        rw [et]
        refine ⟨rfl, CaJ.again HF.out.2.1 HF.out.2.2.2.2.1 HF.out.2.2.2.2.2.1 HP.out ⟨rfl, rfl, rfl, rfl, rfl, rfl, rfl, rfl, rfl, rfl, rfl⟩ HN.out (p := p) (t := t + 1) ?_ (ca_wait HK.out (by rw [← HP.out]; exact HL.out) rfl HW2.out) rfl HI.out (by omega)⟩
        refine HI2.out.onTrip HN.out ?_ (HI2.out.below.setCell HN.out.t0 _) ((KeepBut.refl _ _ _).set_ _ _)
        have := blk_set HI2.out.trip 3 (.int .i64 (t + 1))
        simp only [List.setIfInBounds_toArray, List.set_cons_zero, List.set_cons_succ] at this
        exact this
      · have hn : free = true ∨ gp ≤ t - last := by
          cases free with
          | true => exact .inl rfl
          | false => exact .inr (by rcases Int.lt_or_le (t - last) gp with h | h; exact absurd ⟨rfl, h⟩ hw; exact h)
        have HNN := Aside0.mk hn
        clear hw
        refine (flow_Next_yes.calls (w0 := w) t HI1.out.out HN.out.o0 HI1.out.below HL.out (by rw [HP.out]; exact HPL.out.2) (by obtain ⟨-, -, -, hl, -⟩ := HBd.out; omega) (by rw [HW.out]; exact hn.elim .inl (fun h => .inr (by omega)))).mono ?_
        rintro e W2 ⟨rfl, ho2, hb2, hk2⟩
        have HI2 := Aside0.mk (HI1.out.onOut HN.out ho2 hb2 hk2)
        have c1 : W2.cell? ⟨gt, 1, none⟩ = some (.int .i64 p) := (blk_cell HI2.out.trip 1).trans rfl
        have z := fun j => blk_frozen HI2.out.trip j
        obtain ⟨y, hy⟩ : ∃ y, y = P.getD told ⟨#[]⟩ := ⟨_, rfl⟩
        rw [← hy]
        have HY := Aside0.mk hy
        have ep : Aside0 (wrap64 (p + 1) = p + 1) := ⟨w64_small _ (by obtain ⟨hp, -⟩ := HBd.out; omega) (by obtain ⟨hp, -⟩ := HBd.out; omega)⟩
        clear hy ho2 hb2 hk2 hn
        go_upto_region 14 with (fail)
        rw [ep.out]
        clear c1 z
        refine wp_at (fun W' => CaI w W' go gi gt g8 A c P (told + 1) (nextWaits P told left) (nextLeft told left) gp false t room b q s3 s4 s5 s6 s7 s8 ⟨#[]⟩ (p + 1) f t) ?_ ?_
        · refine HI2.out.onTrip HN.out ?_ (HI2.out.below.setCell HN.out.t0 _) ((KeepBut.refl _ _ _).set_ _ _)
          have := blk_set HI2.out.trip 1 (.int .i64 (p + 1))
          simp only [List.setIfInBounds_toArray, List.set_cons_zero, List.set_cons_succ] at this
          exact this
        intro W3 h3
        have HI3 := Aside0.mk h3
        clear h3
        obtain ⟨X, hX⟩ : ∃ X, X = takeIn room b q s3 s4 s5 s6 s7 s8 (readE y).1 (readE y).2.1 (readE y).2.2.1 (readE y).2.2.2 := ⟨_, rfl⟩
        have HT : Aside0 (flow_In_Take.f room b q s3 s4 s5 s6 s7 s8 y = some X) := ⟨by
          unfold flow_In_Take.f
          rw [if_pos ⟨((HBd.out.2.2.2.2) (by rw [← HP.out]; exact HL.out)).1, by rw [HY.out, HP.out]; exact HPL.out.1⟩, hX]⟩
        have HS := Aside0.mk (ca_step m room block gap HF.out.1 HF.out.2.1 HF.out.2.2.1 HF.out.2.2.2.1 HF.out.2.2.2.2.1 HF.out.2.2.2.2.2.1 (by rw [HF.out.2.2.2.2.2.2]; exact HK.out) (by rw [← HP.out]; exact HL.out) HNN.out X (by rw [hX, HY.out, HP.out]))
        clear hX
        obtain ⟨y1, y2, z0, z1, z2, z3, z4, z5, z6, z7, z8⟩ := X
        go_wp2_with fail
        refine (flow_In_Take.calls gi room b q s3 s4 s5 s6 s7 s8 y y1 y2 z0 z1 z2 z3 z4 z5 z6 z7 z8 w _ HI3.out.inn HI3.out.below HT.out).mono ?_
        rintro e W4 ⟨rfl, hi4, hb4, hk4⟩
        have HI4 := Aside0.mk (HI3.out.onIn HN.out hi4 hb4 hk4)
        clear hi4 hb4 hk4
        rcases HS.out with ⟨hr, hne⟩ | ⟨t3, t4, t5, t6, t7, t8, hx, hnw, hok⟩ | ⟨t3, t4, t5, t6, t7, t8, hx, hnw, hok⟩
        · have uy : (y2 != 0) = true := by simpa using hne
          have uy2 : (y2 == 0) = false := by simpa using hne
          have HR := Aside0.mk hr
          have d0 : W4.cell? ⟨g8, 0, none⟩ = some (.string ⟨#[]⟩) := (blk_cell HI4.out.res 0).trans rfl
          have d1 : W4.cell? ⟨g8, 1, none⟩ = some (.int .i64 0) := (blk_cell HI4.out.res 1).trans rfl
          have d2 : W4.cell? ⟨g8, 2, none⟩ = some (.int .i64 0) := (blk_cell HI4.out.res 2).trans rfl
          have d3 : W4.cell? ⟨g8, 3, none⟩ = some (.int .i64 0) := (blk_cell HI4.out.res 3).trans rfl
          have z := fun j => blk_frozen HI4.out.res j
          clear hne hr
          go_wp2_with fail
          have hg := blk_set (blk_set (blk_set (blk_set HI4.out.res 0 (.string ⟨#[]⟩)) 1 (.int .i64 0)) 2 (.int .i64 0)) 3 (.int .i64 0)
          simp only [List.setIfInBounds_toArray, List.set_cons_zero, List.set_cons_succ] at hg
          simp only [Exit.then, Exit.jump]
          refine bodyPost_ret (results_ct1 (by rfl) _ _ g8 57 #[.string ⟨#[]⟩, .int .i64 0, .int .i64 0, .int .i64 0] (0, 0) _ (by rfl) hg hu (by rfl) (by kernel_rfl)) rfl ?_
          have hr := HR.out
          rw [HF.out.2.2.2.2.2.2] at hr
          simp only [Prod.mk.injEq] at hr
          obtain ⟨rfl, rfl, rfl, rfl, rfl⟩ := hr
          exact ⟨rfl, (((HI4.out.below.setCell HN.out.r0 _).setCell HN.out.r0 _).setCell HN.out.r0 _).setCell HN.out.r0 _⟩
        · simp only [Prod.mk.injEq] at hx
          obtain ⟨rfl, rfl, rfl, rfl, rfl, rfl, rfl, rfl, rfl, rfl, rfl⟩ := hx
          have HO := Aside0.mk hok
          rw [← HP.out] at hnw
          have HNW := Aside0.mk hnw
          clear hok hnw
          go_wp2_with fail
          go_step3
          refine And.intro rfl ?_
          have hi4 := HI4.out
          rw [HNW.out] at hi4
          have ho := HO.out
          rw [HF.out.2.2.2.2.2.2] at ho
          obtain ⟨hp, hf, ht, hl, -⟩ := HBd.out
          exact CaJ.again HF.out.2.1 HF.out.2.2.2.2.1 HF.out.2.2.2.2.2.1 HP.out ⟨rfl, rfl, rfl, rfl, rfl, rfl, rfl, rfl, rfl, rfl, rfl⟩ HN.out hi4 ho rfl HI.out (by omega)
        · simp only [Prod.mk.injEq] at hx
          obtain ⟨rfl, rfl, rfl, rfl, rfl, rfl, rfl, rfl, rfl, rfl, rfl⟩ := hx
          have HO := Aside0.mk hok
          rw [← HP.out] at hnw
          have HNW := Aside0.mk hnw
          have hsz := (tell_read z1 z2 HF.out.2.2.2.2.1 HF.out.2.2.2.2.2.1).2
          obtain ⟨tx, htx⟩ : ∃ tx, tx = tellP 0 z1 z2 := ⟨_, rfl⟩
          rw [← htx] at hsz
          rw [← htx]
          have HTX := Aside0.mk htx
          have utx : (tx.toList == ([] : List UInt8)) = false := beq_eq_false_iff_ne.2 (fun e => by have := ba_toList_nil.1 e; omega)
          have utx2 : (tx.toList != ([] : List UInt8)) = true := bne_iff_ne.2 (fun e => by have := ba_toList_nil.1 e; omega)
          have c2 : W4.cell? ⟨gt, 2, none⟩ = some (.int .i64 f) := (blk_cell HI4.out.trip 2).trans rfl
          have z := fun j => blk_frozen HI4.out.trip j
          have ef : Aside0 (wrap64 (f + 1) = f + 1) := ⟨w64_small _ (by obtain ⟨-, hf, -⟩ := HBd.out; omega) (by obtain ⟨-, hf, -⟩ := HBd.out; omega)⟩
          clear hok hnw hsz htx
          go_upto_region 17 with (fail)
          rw [ef.out]
          clear c2 z
          have hi4 := HI4.out
          rw [HNW.out] at hi4
          have HI4 := Aside0.mk hi4
          clear hi4
          refine wp_at (fun W' => CaI w W' go gi gt g8 A c P (told + 1) true (nextLeft told left) gp false t z0 z1 z2 z3 z4 z5 z6 z7 z8 ⟨#[]⟩ (p + 1) (f + 1) t) ?_ ?_
          · refine HI4.out.onTrip HN.out ?_ (HI4.out.below.setCell HN.out.t0 _) ((KeepBut.refl _ _ _).set_ _ _)
            have := blk_set HI4.out.trip 2 (.int .i64 (f + 1))
            simp only [List.setIfInBounds_toArray, List.set_cons_zero, List.set_cons_succ] at this
            exact this
          intro W5 h5
          have HI5 := Aside0.mk h5
          have c3 : W5.cell? ⟨gt, 3, none⟩ = some (.int .i64 t) := (blk_cell h5.trip 3).trans rfl
          clear h5
          go_wp2_with fail
          rw [HTX.out]
          refine (flow_Flow.calls (w0 := w) z1 z2 t HF.out.2.2.2.2.1 HF.out.2.2.2.2.2.1 HI5.out.out HN.out.o0 HI5.out.below).mono ?_
          rintro e W6 ⟨rfl, ho6, hb6, hk6⟩
          have HI6 := Aside0.mk (HI5.out.onOut HN.out ho6 hb6 hk6)
          clear ho6 hb6 hk6 c3
          go_wp2_with fail
          go_step3
          refine And.intro rfl ?_
          have ho := HO.out
          rw [HF.out.2.2.2.2.2.2] at ho
          obtain ⟨hp, hf, ht, hl, -⟩ := HBd.out
          exact CaJ.again HF.out.2.1 HF.out.2.2.2.2.1 HF.out.2.2.2.2.2.1 HP.out ⟨rfl, rfl, rfl, rfl, rfl, rfl, rfl, rfl, rfl, rfl, rfl⟩ HN.out HI6.out ho rfl HI.out (by omega)
  · intro hgo
    have HGO := Aside0.mk hgo
    clear hgo
    go_wp2_with fail
    refine (flow_Send.calls m _ HF.out.1 HF.out.2.1).mono ?_
    rintro e w1 ⟨go, A, c, rfl, ho, hge, hal, hb1⟩
    have HO1 := Aside0.mk ho
    have HGE := Aside0.mk hge
    have HAL := Aside0.mk hal
    have hb0 := below_alloc (Below.refl w.heap.size w) (.cells #[.string ⟨#[]⟩, .int .i64 0, .int .i64 0, .int .i64 0] 57)
    have HB1 := Aside0.mk (hb0.trans (hb1.mono (by simp)))
    have H81 := Aside0.mk ((hb1.block w.heap.size (by simp)).trans (blk_new w (.cells #[.string ⟨#[]⟩, .int .i64 0, .int .i64 0, .int .i64 0] 57)))
    clear ho hge hal hb0 hb1
    go_wp2_with fail
    refine (flow_Hear.calls room block gap room b q ⟨#[]⟩ 0 0 0 ⟨#[]⟩ false w1 w1 (Below.refl _ _) (by rw [HF.out.2.2.1, HF.out.2.2.2.1]; rfl)).mono ?_
    rintro e w2 ⟨gi, rfl, hs2, hb2, -⟩
    have HS2 := Aside0.mk hs2
    have HB2 := Aside0.mk hb2
    clear hs2 hb2
    go_wp2_with fail
    refine wp_label ?_
    simp only [Exit.then]
    apply_assumption
    apply HGO.out
    have hs := HS2.out
    have hb2 := HB2.out
    have h81 := H81.out
    have hl8 := blk_lt h81
    have hlo := blk_lt HO1.out.hb
    have hli := blk_lt hs.1
    have hbA := below_alloc hb2 (.cells #[.string ⟨#[]⟩, .int .i64 0, .int .i64 0, .int .i64 0] 57)
    have hge := HGE.out
    have hge2 := hs.2
    simp only [World.size_alloc] at hge
    refine CaJ.of (go := go) (gi := gi) (gt := w2.heap.size) (g8 := w.heap.size) (A := A) (c := c) (told := 0) (left := 0) (gp := 0) (free := true) (last := 0) (s3 := ⟨#[]⟩) (s4 := 0) (s5 := 0) (s6 := 0) (s7 := ⟨#[]⟩) (s8 := false) (p := 0) (f := 0) (t := 0) ⟨rfl, rfl, rfl, rfl, rfl, rfl, rfl, rfl, rfl, rfl, rfl⟩ ?_ ?_ ?_
    · exact ⟨by omega, by omega, by omega, by omega, by omega, by omega, by omega, by omega, by omega, fun ad e hl => by have := HAL.out ad e hl; simp only [World.size_alloc] at this; omega⟩
    · exact ⟨HO1.out.below hbA, ⟨(below_alloc (Below.refl w2.heap.size w2) _).block gi hli |>.trans hs.1, by omega⟩, blk_new _ _, (hbA.block w.heap.size hl8).trans h81, (HB1.out.trans (hb2.mono HB1.out.size)).alloc (by have := HB1.out.size; have := hb2.size; omega) _⟩
    · exact .inl ⟨rfl, rfl, rfl, rfl, rfl, rfl, rfl, rfl, rfl, rfl, rfl, rfl, rfl, rfl⟩

theorem flow_Carry.calls (a0 : ByteArray) (a1 a2 a3 : Int) (r1 : ByteArray) (r2 r3 r4 r5 : Int) (w : World) (h : flow_Carry.f a0 a1 a2 a3 = some (r1, r2, r3, r4, r5)) :
    Calls Try.prog 29 #[.string a0, .int .i64 a1, .int .i64 a2, .int .i64 a3] w fun e w' => e = .returned (.tuple #[.agg #[.string r1, .int .i64 r2, .int .i64 r3, .int .i64 r4], .int .i64 r5]) ∧ Below w.heap.size w w' := by
  have hR := Option.some.inj h
  by_cases h0 : a0.size = 0
  · unfold carryP at hR
    rw [if_pos h0] at hR
    simp only [Prod.mk.injEq] at hR
    obtain ⟨rfl, rfl, rfl, rfl, rfl⟩ := hR
    exact flow_Carry_no.calls a0 a1 a2 a3 2 w (.inl ⟨h0, rfl⟩)
  · by_cases h1 : a0.size > 4095
    · unfold carryP at hR
      rw [if_neg h0, if_pos h1] at hR
      simp only [Prod.mk.injEq] at hR
      obtain ⟨rfl, rfl, rfl, rfl, rfl⟩ := hR
      exact flow_Carry_no.calls a0 a1 a2 a3 9 w (.inr ⟨h1, rfl⟩)
    · exact flow_Carry_yes.calls a0 a1 a2 a3 w (by omega) (by omega) r1 r2 r3 r4 r5 hR
end Go.Proofs.Ythgnhhdblbiihaa.P
