-- written by a program (gp.py over the kit's print) for this claim
import Derived.Test.YtofafljfabgpmaaDoorGCx0
import Derived.Test.YtofafljfabgpmaaDoorGCxe23
import Derived.Test.YtofafljfabgpmaaDoorGCxf19
import Derived.Test.YtofafljfabgpmaaDoorGCxf24
import Derived.Test.YtofafljfabgpmaaDoorCalWalkedX
namespace Go.Proofs.YtofafljfabgpmaaDoor.GC
open Go.RowKit Go.Proofs.YtofafljfabgpmaaDoorW.PrintWords Go.Proofs.YtofafljfabgpmaaDoorW.PrintLast Go.Proofs.YtofafljfabgpmaaDoor.Ext Go.Proofs.YtofafljfabgpmaaDoor.PCal
attribute [local go_sem] max2_int min2_int max_two min_two   -- for this text alone
set_option linter.unusedVariables false
set_option linter.unusedSimpArgs false

attribute [local go_sem high] eqA23
/-! ### larderlaw03_CalWalk: function 6 -/
mutual
def larderlaw03_CalWalk.j0 : Nat → Int → Int → Int → Option (Bool)
  | 0, _, _, _ => none
  | k + 1, x2, x9, x10 => (larderlaw03_within.f x2 1 4000).bind fun t60103 => ((larderlaw03_at.f k x9).bind fun bt60104 => ((larderlaw03_at.f k x10).bind fun bt60107 => ((larderlaw03_walked.f bt60104.1 bt60104.2.1 bt60104.2.2 bt60107.1 bt60107.2.1 bt60107.2.2 (wrap64 (t60103 + (wrap64 (Int.tdiv (wrap64 (x10 - x9)) 20000)))) 1073741824).bind fun t60110 => (if (wrap64 (t60103 + (wrap64 (Int.tdiv (wrap64 (x10 - x9)) 20000)))) = 0 then (none) else (if (t60110.length : Int) = (wrap64 ((wrap64 (Int.tdiv (wrap64 (x10 - x9)) (wrap64 (t60103 + (wrap64 (Int.tdiv (wrap64 (x10 - x9)) 20000)))))) + 1)) then (larderlaw03_CalWalk.l0 k x9 x10 (wrap64 (t60103 + (wrap64 (Int.tdiv (wrap64 (x10 - x9)) 20000)))) t60110 0) else (some false))))))
def larderlaw03_CalWalk.l0 : Nat → Int → Int → Int → List (S23) → Int → Option (Bool)
  | 0, _, _, _, _, _ => none
  | k + 1, x9, x10, x11, x12, x13 => if x13 < (x12.length : Int) then (if 0 ≤ x13 then ((larderlaw03_at.f k (wrap64 (x9 + (wrap64 (x13 * x11))))).bind fun bt60114 => (if (!(((rd_T23 x12 x13).f0) == bt60114.1) || (!(((rd_T23 x12 x13).f1) == bt60114.2.1) || (!(((rd_T23 x12 x13).f2) == bt60114.2.2)))) = true then (some false) else (larderlaw03_CalWalk.l0 k x9 x10 x11 x12 (wrap64 (x13 + 1))))) else (none)) else ((larderlaw03_at.f k (wrap64 (x9 + (wrap64 ((wrap64 ((x12.length : Int) - 1)) * x11))))).bind fun bt60117 => ((larderlaw03_at.f k x9).bind fun bt60120 => ((larderlaw03_walked.f bt60117.1 bt60117.2.1 bt60117.2.2 bt60120.1 bt60120.2.1 bt60120.2.2 (wrap64 (-x11)) 1073741824).bind fun t60123 => (if (t60123.length : Int) = (x12.length : Int) then (larderlaw03_CalWalk.l1 k x9 x10 x11 x12 t60123 0) else (some false)))))
def larderlaw03_CalWalk.l1 : Nat → Int → Int → Int → List (S23) → List (S23) → Int → Option (Bool)
  | 0, _, _, _, _, _, _ => none
  | k + 1, x9, x10, x11, x12, x15, x16 => if x16 < (x12.length : Int) then (if 0 ≤ x16 then (if x16 < (x15.length : Int) then (if 0 ≤ (wrap64 ((wrap64 ((x12.length : Int) - 1)) - x16)) then (if (wrap64 ((wrap64 ((x12.length : Int) - 1)) - x16)) < (x12.length : Int) then (if (!(((rd_T23 x15 x16).f0) == ((rd_T23 x12 (wrap64 ((wrap64 ((x12.length : Int) - 1)) - x16))).f0)) || (!(((rd_T23 x15 x16).f1) == ((rd_T23 x12 (wrap64 ((wrap64 ((x12.length : Int) - 1)) - x16))).f1)) || (!(((rd_T23 x15 x16).f2) == ((rd_T23 x12 (wrap64 ((wrap64 ((x12.length : Int) - 1)) - x16))).f2))))) = true then (some false) else (larderlaw03_CalWalk.l1 k x9 x10 x11 x12 x15 (wrap64 (x16 + 1)))) else (none)) else (none)) else (none)) else (none)) else ((larderlaw03_at.f k x10).bind fun bt60128 => ((larderlaw03_at.f k x9).bind fun bt60131 => ((larderlaw03_walked.f bt60128.1 bt60128.2.1 bt60128.2.2 bt60131.1 bt60131.2.1 bt60131.2.2 x11 5).bind fun t60134 => (if x9 = x10 then (if (t60134.length : Int) = 1 then (some true) else (some ((t60134.length : Int) == 0))) else (some ((t60134.length : Int) == 0))))))
end
def larderlaw03_CalWalk.f (k : Nat) (a0 : Int) (a1 : Int) (a2 : Int) : Option (Bool) := (larderlaw03_within.f a0 0 3652424).bind fun t60101 => ((larderlaw03_within.f a1 0 3652424).bind fun t60102 => (if t60101 > t60102 then (larderlaw03_CalWalk.j0 k a2 t60102 t60101) else (larderlaw03_CalWalk.j0 k a2 t60101 t60102)))
theorem larderlaw03_CalWalk.mono_l : ∀ k, (∀ y0 y1 y2, LeO (larderlaw03_CalWalk.j0 k y0 y1 y2) (larderlaw03_CalWalk.j0 (k + 1) y0 y1 y2)) ∧ (∀ y0 y1 y2 y3 y4, LeO (larderlaw03_CalWalk.l0 k y0 y1 y2 y3 y4) (larderlaw03_CalWalk.l0 (k + 1) y0 y1 y2 y3 y4)) ∧ (∀ y0 y1 y2 y3 y4 y5, LeO (larderlaw03_CalWalk.l1 k y0 y1 y2 y3 y4 y5) (larderlaw03_CalWalk.l1 (k + 1) y0 y1 y2 y3 y4 y5))
  | 0 => ⟨fun _ _ _ r h => by simp [larderlaw03_CalWalk.j0] at h, fun _ _ _ _ _ r h => by simp [larderlaw03_CalWalk.l0] at h, fun _ _ _ _ _ _ r h => by simp [larderlaw03_CalWalk.l1] at h⟩
  | k + 1 => by
    obtain ⟨ih0, ih1, ih2⟩ := larderlaw03_CalWalk.mono_l k
    refine ⟨?_, ?_, ?_⟩
    · intro y0 y1 y2
      unfold larderlaw03_CalWalk.j0
      repeat' first
      | (with_reducible exact ih0 _ _ _)
      | (with_reducible exact ih1 _ _ _ _ _)
      | (with_reducible exact ih2 _ _ _ _ _ _)
      | (with_reducible exact larderlaw03_at.mono _ _)
      | (with_reducible exact LeO.refl _)
      | (with_reducible exact LeO.none _)
      | (with_reducible refine LeO.ite ?_ ?_)
      | (with_reducible refine LeO.bind ?_ (fun _ => ?_))
      | exact ih0 _ _ _
      | exact ih1 _ _ _ _ _
      | exact ih2 _ _ _ _ _ _
      | exact larderlaw03_at.mono _ _
      | exact LeO.none _
      | refine LeO.ite ?_ ?_
      | refine LeO.bind ?_ (fun _ => ?_)
    · intro y0 y1 y2 y3 y4
      unfold larderlaw03_CalWalk.l0
      repeat' first
      | (with_reducible exact ih0 _ _ _)
      | (with_reducible exact ih1 _ _ _ _ _)
      | (with_reducible exact ih2 _ _ _ _ _ _)
      | (with_reducible exact larderlaw03_at.mono _ _)
      | (with_reducible exact LeO.refl _)
      | (with_reducible exact LeO.none _)
      | (with_reducible refine LeO.ite ?_ ?_)
      | (with_reducible refine LeO.bind ?_ (fun _ => ?_))
      | exact ih0 _ _ _
      | exact ih1 _ _ _ _ _
      | exact ih2 _ _ _ _ _ _
      | exact larderlaw03_at.mono _ _
      | exact LeO.none _
      | refine LeO.ite ?_ ?_
      | refine LeO.bind ?_ (fun _ => ?_)
    · intro y0 y1 y2 y3 y4 y5
      unfold larderlaw03_CalWalk.l1
      repeat' first
      | (with_reducible exact ih0 _ _ _)
      | (with_reducible exact ih1 _ _ _ _ _)
      | (with_reducible exact ih2 _ _ _ _ _ _)
      | (with_reducible exact larderlaw03_at.mono _ _)
      | (with_reducible exact LeO.refl _)
      | (with_reducible exact LeO.none _)
      | (with_reducible refine LeO.ite ?_ ?_)
      | (with_reducible refine LeO.bind ?_ (fun _ => ?_))
      | exact ih0 _ _ _
      | exact ih1 _ _ _ _ _
      | exact ih2 _ _ _ _ _ _
      | exact larderlaw03_at.mono _ _
      | exact LeO.none _
      | refine LeO.ite ?_ ?_
      | refine LeO.bind ?_ (fun _ => ?_)
theorem larderlaw03_CalWalk.mono : ∀ a0 a1 a2 k, LeO (larderlaw03_CalWalk.f k a0 a1 a2) (larderlaw03_CalWalk.f (k + 1) a0 a1 a2) := by
  intro a0 a1 a2 k
  obtain ⟨ih0, ih1, ih2⟩ := larderlaw03_CalWalk.mono_l k
  unfold larderlaw03_CalWalk.f
  repeat' first
      | (with_reducible exact ih0 _ _ _)
      | (with_reducible exact ih1 _ _ _ _ _)
      | (with_reducible exact ih2 _ _ _ _ _ _)
      | (with_reducible exact larderlaw03_at.mono _ _)
      | (with_reducible exact LeO.refl _)
      | (with_reducible exact LeO.none _)
      | (with_reducible refine LeO.ite ?_ ?_)
      | (with_reducible refine LeO.bind ?_ (fun _ => ?_))
      | exact ih0 _ _ _
      | exact ih1 _ _ _ _ _
      | exact ih2 _ _ _ _ _ _
      | exact larderlaw03_at.mono _ _
      | exact LeO.none _
      | refine LeO.ite ?_ ?_
      | refine LeO.bind ?_ (fun _ => ?_)
def larderlaw03_CalWalk.T15 : Bool × List (List Nat × List Nat) := (true, [([], []), ([], []), ([0, 1], [0, 1]), ([2], [2]), ([], []), ([], []), ([], []), ([5, 6], [5, 6]), ([4, 7], [4, 7]), ([8], [8]), ([3, 9], [3, 9])])
def larderlaw03_CalWalk.B15 : List Nat := [0, 0, 3, 7, 0, 0, 0, 96, 240, 496, 1023]
theorem larderlaw03_CalWalk.tab15 : rtab .any (opsOf Tryd.f6 15) = larderlaw03_CalWalk.T15 := by kernel_rfl
theorem larderlaw03_CalWalk.bits15 : waitsOk larderlaw03_CalWalk.T15.2 larderlaw03_CalWalk.B15 = true := by kernel_rfl
def larderlaw03_CalWalk.T24 : Bool × List (List Nat × List Nat) := (true, [([], []), ([], []), ([0, 1], [0, 1]), ([2], [2]), ([], []), ([], []), ([5], [5]), ([6], [6]), ([], []), ([7, 8], [7, 8]), ([4, 9], [4, 9]), ([10], [10]), ([3, 11], [3, 11])])
def larderlaw03_CalWalk.B24 : List Nat := [0, 0, 3, 7, 0, 0, 32, 96, 0, 480, 1008, 2032, 4095]
theorem larderlaw03_CalWalk.tab24 : rtab .any (opsOf Tryd.f6 24) = larderlaw03_CalWalk.T24 := by kernel_rfl
theorem larderlaw03_CalWalk.bits24 : waitsOk larderlaw03_CalWalk.T24.2 larderlaw03_CalWalk.B24 = true := by kernel_rfl
set_option maxHeartbeats 8000000 in
set_option maxRecDepth 100000 in
theorem larderlaw03_CalWalk.calls (k : Nat) (a0 : Int) (a1 : Int) (a2 : Int) (r : Bool) (w : World) (hG : GlobOk w) (h : larderlaw03_CalWalk.f k a0 a1 a2 = some r) :
    Calls Tryd.prog 6 #[.int .i64 a0, .int .i64 a1, .int .i64 a2] w fun e w' => e = .returned (.bool r) ∧ Below w.heap.size w w' := by
  have HG := Aside0.mk hG
  clear hG
  have hu23 := Tryd.underlying23
  have HB := Aside0.mk (Below.refl w.heap.size w)
  have H : ((larderlaw03_within.f a0 0 3652424).bind fun t60101 => ((larderlaw03_within.f a1 0 3652424).bind fun t60102 => (if t60101 > t60102 then (larderlaw03_CalWalk.j0 k a2 t60102 t60101) else (larderlaw03_CalWalk.j0 k a2 t60101 t60102)))) = some r := h
  clear h
  replace H := Option.bind_eq_some_iff.mp H
  obtain ⟨t60101, A40, H⟩ := H
  replace H : ((larderlaw03_within.f a1 0 3652424).bind fun t60102 => (if t60101 > t60102 then (larderlaw03_CalWalk.j0 k a2 t60102 t60101) else (larderlaw03_CalWalk.j0 k a2 t60101 t60102))) = some r := H
  have A4 := Aside0.mk A40
  clear A40
  replace H := Option.bind_eq_some_iff.mp H
  obtain ⟨t60102, A50, H⟩ := H
  replace H : (if t60101 > t60102 then (larderlaw03_CalWalk.j0 k a2 t60102 t60101) else (larderlaw03_CalWalk.j0 k a2 t60101 t60102)) = some r := H
  have A5 := Aside0.mk A50
  clear A50
  have HC6 := Aside0.mk H
  clear H
  go_enter Tryd.func6, Tryd.ntmps6
  go_upto_if 26 with (first | ((with_reducible refine gate_callee (f := 19) rfl ?_); refine goesL_ (some 19) rfl rfl Tryd.func19 (by kernel_rfl) rfl #[.int .i64 a0, .int .i64 0, .int .i64 3652424] rfl (by (try simp only [List.map_toArray, List.map_cons, List.map_nil]); first | done | rfl | (simp only [List.length_drop, List.length_take]; rfl)) ?_; (with_reducible refine (larderlaw03_within.calls a0 0 3652424 t60101 _ A4.out).mono ?_); rintro e w' ⟨rfl, ⟨nd, rfl⟩⟩; refine ⟨_, rfl, ?_⟩) | ((with_reducible refine gate_callee (f := 19) rfl ?_); refine goesL_ (some 21) rfl rfl Tryd.func19 (by kernel_rfl) rfl #[.int .i64 a1, .int .i64 0, .int .i64 3652424] rfl (by (try simp only [List.map_toArray, List.map_cons, List.map_nil]); first | done | rfl | (simp only [List.length_drop, List.length_take]; rfl)) ?_; (with_reducible refine (larderlaw03_within.calls a1 0 3652424 t60102 _ A5.out).mono ?_); rintro e w' ⟨rfl, ⟨nd, rfl⟩⟩; refine ⟨_, rfl, ?_⟩))
  (try simp only [Act.put, List.setIfInBounds_toArray, List.set_cons_zero, List.set_cons_succ])
  go_cut [9, 10] (fun v9 v10 wc => ∃ (kq : Nat) (x9_5 : Int) (x10_5 : Int), v9 = .int .i64 x9_5 ∧ v10 = .int .i64 x10_5 ∧ Aside0 (larderlaw03_CalWalk.j0 kq a2 x9_5 x10_5 = some r) ∧ Aside0 (kq ≤ k) ∧ Aside0 (Below w.heap.size w wc))
  case first =>
    have H := HC6.out
    clear HC6
    by_cases c7 : t60101 > t60102
    · rw [if_pos c7] at H
      have c7b0 : decide (t60102 < t60101) = true := decide_eq_true c7
      clear c7
      (first | rw [c7b0] | (simp only [i64_w, i32_w]; rw [c7b0]) | skip)
      have H' := Aside0.mk H
      clear H
      go_wp2
      go_meet
      case rel => exact ⟨_, (t60102), (t60101), (by first | rfl | (simp; done) | (simp [*]; done)), (by first | rfl | (simp; done) | (simp [*]; done)), H', ⟨by first | omega | exact Nat.le_refl _⟩, ⟨by repeat (first | (with_reducible first | exact HB.out | apply below_alloc | apply pw_below_drewN | apply below_drew1) | exact HB.out)⟩⟩
    · rw [if_neg c7] at H
      have c7b0 : decide (t60102 < t60101) = false := decide_eq_false c7
      clear c7
      (first | rw [c7b0] | (simp only [i64_w, i32_w]; rw [c7b0]) | skip)
      have H' := Aside0.mk H
      clear H
      go_wp2
      go_meet
      case rel => exact ⟨_, (t60101), (t60102), (by first | rfl | (simp; done) | (simp [*]; done)), (by first | rfl | (simp; done) | (simp [*]; done)), H', ⟨by first | omega | exact Nat.le_refl _⟩, ⟨by repeat (first | (with_reducible first | exact HB.out | apply below_alloc | apply pw_below_drewN | apply below_drew1) | exact HB.out)⟩⟩
  case rest =>
    clear HC6
    try clear c1
    try clear p2
    try clear c6
    try clear c7
    try clear c7b0
    obtain ⟨kq, x9_5, x10_5, rfl, rfl, HA, HJ5, HB⟩ := hcut
    cases kq with
    | zero => exact absurd HA.out (by simp [larderlaw03_CalWalk.j0])
    | succ kj5 =>
      have H := HA.out
      clear HA
      simp only [larderlaw03_CalWalk.j0] at H
      replace H := Option.bind_eq_some_iff.mp H
      obtain ⟨t60103, A80, H⟩ := H
      replace H : ((larderlaw03_at.f kj5 x9_5).bind fun bt60104 => ((larderlaw03_at.f kj5 x10_5).bind fun bt60107 => ((larderlaw03_walked.f bt60104.1 bt60104.2.1 bt60104.2.2 bt60107.1 bt60107.2.1 bt60107.2.2 (wrap64 (t60103 + (wrap64 (Int.tdiv (wrap64 (x10_5 - x9_5)) 20000)))) 1073741824).bind fun t60110 => (if (wrap64 (t60103 + (wrap64 (Int.tdiv (wrap64 (x10_5 - x9_5)) 20000)))) = 0 then (none) else (if (t60110.length : Int) = (wrap64 ((wrap64 (Int.tdiv (wrap64 (x10_5 - x9_5)) (wrap64 (t60103 + (wrap64 (Int.tdiv (wrap64 (x10_5 - x9_5)) 20000)))))) + 1)) then (larderlaw03_CalWalk.l0 kj5 x9_5 x10_5 (wrap64 (t60103 + (wrap64 (Int.tdiv (wrap64 (x10_5 - x9_5)) 20000)))) t60110 0) else (some false)))))) = some r := H
      have A8 := Aside0.mk A80
      clear A80
      replace H := Option.bind_eq_some_iff.mp H
      obtain ⟨⟨t60104, t60105, t60106⟩, A90, H⟩ := H
      replace H : ((larderlaw03_at.f kj5 x10_5).bind fun bt60107 => ((larderlaw03_walked.f t60104 t60105 t60106 bt60107.1 bt60107.2.1 bt60107.2.2 (wrap64 (t60103 + (wrap64 (Int.tdiv (wrap64 (x10_5 - x9_5)) 20000)))) 1073741824).bind fun t60110 => (if (wrap64 (t60103 + (wrap64 (Int.tdiv (wrap64 (x10_5 - x9_5)) 20000)))) = 0 then (none) else (if (t60110.length : Int) = (wrap64 ((wrap64 (Int.tdiv (wrap64 (x10_5 - x9_5)) (wrap64 (t60103 + (wrap64 (Int.tdiv (wrap64 (x10_5 - x9_5)) 20000)))))) + 1)) then (larderlaw03_CalWalk.l0 kj5 x9_5 x10_5 (wrap64 (t60103 + (wrap64 (Int.tdiv (wrap64 (x10_5 - x9_5)) 20000)))) t60110 0) else (some false))))) = some r := H
      have A9 := Aside0.mk A90
      clear A90
      replace H := Option.bind_eq_some_iff.mp H
      obtain ⟨⟨t60107, t60108, t60109⟩, A100, H⟩ := H
      replace H : ((larderlaw03_walked.f t60104 t60105 t60106 t60107 t60108 t60109 (wrap64 (t60103 + (wrap64 (Int.tdiv (wrap64 (x10_5 - x9_5)) 20000)))) 1073741824).bind fun t60110 => (if (wrap64 (t60103 + (wrap64 (Int.tdiv (wrap64 (x10_5 - x9_5)) 20000)))) = 0 then (none) else (if (t60110.length : Int) = (wrap64 ((wrap64 (Int.tdiv (wrap64 (x10_5 - x9_5)) (wrap64 (t60103 + (wrap64 (Int.tdiv (wrap64 (x10_5 - x9_5)) 20000)))))) + 1)) then (larderlaw03_CalWalk.l0 kj5 x9_5 x10_5 (wrap64 (t60103 + (wrap64 (Int.tdiv (wrap64 (x10_5 - x9_5)) 20000)))) t60110 0) else (some false)))) = some r := H
      have A10 := Aside0.mk A100
      clear A100
      replace H := Option.bind_eq_some_iff.mp H
      obtain ⟨t60110, A110, H⟩ := H
      replace H : (if (wrap64 (t60103 + (wrap64 (Int.tdiv (wrap64 (x10_5 - x9_5)) 20000)))) = 0 then (none) else (if (t60110.length : Int) = (wrap64 ((wrap64 (Int.tdiv (wrap64 (x10_5 - x9_5)) (wrap64 (t60103 + (wrap64 (Int.tdiv (wrap64 (x10_5 - x9_5)) 20000)))))) + 1)) then (larderlaw03_CalWalk.l0 kj5 x9_5 x10_5 (wrap64 (t60103 + (wrap64 (Int.tdiv (wrap64 (x10_5 - x9_5)) 20000)))) t60110 0) else (some false))) = some r := H
      have A11 := Aside0.mk A110
      clear A110
      by_cases c12 : (wrap64 (t60103 + (wrap64 (Int.tdiv (wrap64 (x10_5 - x9_5)) 20000)))) = 0
      · rw [if_pos c12] at H
        exact absurd H (by simp)
      · rw [if_neg c12] at H
        have c12b0 : ((wrap64 (t60103 + (wrap64 (Int.tdiv (wrap64 (x10_5 - x9_5)) 20000)))) == 0) = false := beq_eq_false_iff_ne.mpr c12
        have c12b1 : ((wrap64 (t60103 + (wrap64 (Int.tdiv (wrap64 (x10_5 - x9_5)) 20000)))) != 0) = true := bne_iff_ne.mpr c12
        by_cases c13 : (t60110.length : Int) = (wrap64 ((wrap64 (Int.tdiv (wrap64 (x10_5 - x9_5)) (wrap64 (t60103 + (wrap64 (Int.tdiv (wrap64 (x10_5 - x9_5)) 20000)))))) + 1))
        · rw [if_pos c13] at H
          have c13b0 : ((t60110.length : Int) == (wrap64 ((wrap64 (Int.tdiv (wrap64 (x10_5 - x9_5)) (wrap64 (t60103 + (wrap64 (Int.tdiv (wrap64 (x10_5 - x9_5)) 20000)))))) + 1))) = true := beq_iff_eq.mpr c13
          have c13b1 : ((t60110.length : Int) != (wrap64 ((wrap64 (Int.tdiv (wrap64 (x10_5 - x9_5)) (wrap64 (t60103 + (wrap64 (Int.tdiv (wrap64 (x10_5 - x9_5)) 20000)))))) + 1))) = false := bne_eq_false_iff_eq.mpr c13
          clear c13
          have H' := Aside0.mk H
          clear H
          go_wp2_with (first | ((with_reducible refine gate_callee (f := 19) rfl ?_); refine goesL_ (some 30) rfl rfl Tryd.func19 (by kernel_rfl) rfl #[.int .i64 a2, .int .i64 1, .int .i64 4000] rfl (by (try simp only [List.map_toArray, List.map_cons, List.map_nil]); first | done | rfl | (simp only [List.length_drop, List.length_take]; rfl)) ?_; (with_reducible refine (larderlaw03_within.calls a2 1 4000 t60103 _ A8.out).mono ?_); rintro e w' ⟨rfl, ⟨nd, rfl⟩⟩; refine ⟨_, rfl, ?_⟩) | ((with_reducible refine gate_callee (f := 24) rfl ?_); refine goesL_ (some 37) rfl rfl Tryd.func24 (by kernel_rfl) rfl #[.int .i64 x9_5] rfl (by (try simp only [List.map_toArray, List.map_cons, List.map_nil]); first | done | rfl | (simp only [List.length_drop, List.length_take]; rfl)) ?_; (with_reducible refine (larderlaw03_at.calls kj5 x9_5 t60104 t60105 t60106 _ ?side1 A9.out).mono ?_); (case side1 => refine GlobOk.below HG.out ?_; repeat (first | (with_reducible first | exact HB.out | apply below_alloc | apply pw_below_drewN | apply below_drew1) | exact HB.out)); rintro e w14 ⟨rfl, hb⟩; refine ⟨_, rfl, ?_⟩; have n0_ := Aside0.mk (below_step (by repeat (first | (with_reducible first | exact HB.out | apply below_alloc | apply pw_below_drewN | apply below_drew1) | exact HB.out)) hb); clear HB; have HB := n0_; clear n0_; (try clear hb); (try clear hb2); (try clear hk); (try clear hi)) | ((with_reducible refine gate_callee (f := 24) rfl ?_); refine goesL_ (some 39) rfl rfl Tryd.func24 (by kernel_rfl) rfl #[.int .i64 x10_5] rfl (by (try simp only [List.map_toArray, List.map_cons, List.map_nil]); first | done | rfl | (simp only [List.length_drop, List.length_take]; rfl)) ?_; (with_reducible refine (larderlaw03_at.calls kj5 x10_5 t60107 t60108 t60109 _ ?side1 A10.out).mono ?_); (case side1 => refine GlobOk.below HG.out ?_; repeat (first | (with_reducible first | exact HB.out | apply below_alloc | apply pw_below_drewN | apply below_drew1) | exact HB.out)); rintro e w15 ⟨rfl, hb⟩; refine ⟨_, rfl, ?_⟩; have n0_ := Aside0.mk (below_step (by repeat (first | (with_reducible first | exact HB.out | apply below_alloc | apply pw_below_drewN | apply below_drew1) | exact HB.out)) hb); clear HB; have HB := n0_; clear n0_; (try clear hb); (try clear hb2); (try clear hk); (try clear hi)) | ((with_reducible refine gate_callee (f := 20) rfl ?_); refine goesL_ (some 41) rfl rfl Tryd.func20 (by kernel_rfl) rfl #[.agg #[.int .i64 t60104, .int .i64 t60105, .int .i64 t60106], .agg #[.int .i64 t60107, .int .i64 t60108, .int .i64 t60109], .int .i64 (wrap64 (t60103 + (wrap64 (Int.tdiv (wrap64 (x10_5 - x9_5)) 20000)))), .int .i64 1073741824] rfl (by (try simp only [List.map_toArray, List.map_cons, List.map_nil]); first | done | rfl | (simp only [List.length_drop, List.length_take]; rfl)) ?_; (with_reducible refine (larderlaw03_walked.calls t60104 t60105 t60106 t60107 t60108 t60109 (wrap64 (t60103 + (wrap64 (Int.tdiv (wrap64 (x10_5 - x9_5)) 20000)))) 1073741824 t60110 _ ?side1 A11.out).mono ?_); (case side1 => refine GlobOk.below HG.out ?_; repeat (first | (with_reducible first | exact HB.out | apply below_alloc | apply pw_below_drewN | apply below_drew1) | exact HB.out)); rintro e w16 ⟨v60111, rfl, ho0, hb⟩; refine ⟨_, rfl, ?_⟩; have n0_ := Aside0.mk (Kd.R_lower ho0 (below_size (by repeat (first | (with_reducible first | exact HB.out | apply below_alloc | apply pw_below_drewN | apply below_drew1) | exact HB.out)))); have n1_ := Aside0.mk (below_step (by repeat (first | (with_reducible first | exact HB.out | apply below_alloc | apply pw_below_drewN | apply below_drew1) | exact HB.out)) hb); clear HB; have HO60112 := n0_; have HB := n1_; clear n0_ n1_; (try clear hb); (try clear hb2); (try clear hk); (try clear hi); (try clear ho0); obtain ⟨Ao17, co17, eo17⟩ := Kd.R_slice HO60112.out; subst eo17))
          go_loopg [13] kj5 (fun kq v13 w' => ∃ (x13_2 : Int), v13 = .int .i64 x13_2 ∧ Aside0 (larderlaw03_CalWalk.l0 kq x9_5 x10_5 (wrap64 (t60103 + (wrap64 (Int.tdiv (wrap64 (x10_5 - x9_5)) 20000)))) t60110 x13_2 = some r) ∧ Aside0 (kq ≤ kj5) ∧ Aside0 (Kd.R k23 23 w' w.heap.size (fun _ => True) (.slice Ao17 t60110.length co17) t60110) ∧ Aside0 (Below w.heap.size w w'))
          case atStart => exact ⟨(0), (by first | rfl | (simp; done) | (simp [*]; done)), H', ⟨Nat.le_refl _⟩, ⟨by (with_reducible repeat (first | apply Kd.R_alloc | apply Kd.R_drewN | apply Kd.R_drew)); exact HO60112.out⟩, ⟨by repeat (first | (with_reducible first | exact HB.out | apply below_alloc | apply pw_below_drewN | apply below_drew1) | exact HB.out)⟩⟩
          case round =>
            clear H'
            try clear c1
            try clear c2
            try clear p2
            try clear c6
            try clear p6
            try clear c7
            try clear c7b0
            try clear c12
            try clear c12b0
            try clear c12b1
            try clear c13
            try clear c13b0
            try clear c13b1
            try clear p2
            obtain ⟨x13_2, rfl, HA, HK2, HO_12, HB⟩ := hrel
            cases gk with
            | zero => exact absurd HA.out (by simp [larderlaw03_CalWalk.l0])
            | succ k2 =>
              have H := HA.out
              clear HA
              simp only [larderlaw03_CalWalk.l0] at H
              by_cases c18 : x13_2 < (t60110.length : Int)
              · rw [if_pos c18] at H
                have c18b0 : decide (x13_2 < (t60110.length : Int)) = true := decide_eq_true c18
                clear c18
                by_cases c19 : 0 ≤ x13_2
                · rw [if_pos c19] at H
                  have c19b0 : decide (0 ≤ x13_2) = true := decide_eq_true c19
                  clear c19
                  replace H := Option.bind_eq_some_iff.mp H
                  obtain ⟨⟨t60114, t60115, t60116⟩, A200, H⟩ := H
                  replace H : (if (!(((rd_T23 t60110 x13_2).f0) == t60114) || (!(((rd_T23 t60110 x13_2).f1) == t60115) || (!(((rd_T23 t60110 x13_2).f2) == t60116)))) = true then (some false) else (larderlaw03_CalWalk.l0 k2 x9_5 x10_5 (wrap64 (t60103 + (wrap64 (Int.tdiv (wrap64 (x10_5 - x9_5)) 20000)))) t60110 (wrap64 (x13_2 + 1)))) = some r := H
                  have A20 := Aside0.mk A200
                  clear A200
                  by_cases c21 : (!(((rd_T23 t60110 x13_2).f0) == t60114) || (!(((rd_T23 t60110 x13_2).f1) == t60115) || (!(((rd_T23 t60110 x13_2).f2) == t60116)))) = true
                  · rw [if_pos c21] at H
                    have c21b0 : (!(((rd_T23 t60110 x13_2).f0) == t60114) || (!(((rd_T23 t60110 x13_2).f1) == t60115) || (!(((rd_T23 t60110 x13_2).f2) == t60116)))) = true := c21
                    clear c21
                    obtain rfl := Option.some.inj H
                    try go_wp2
                    have n0_ := Aside0.mk (Kd.R_drew HO_12.out)
                    have n1_ := Aside0.mk (below_drew1 HB.out)
                    clear HO_12
                    clear HB
                    have HO_12 := n0_
                    have HB := n1_
                    clear n0_ n1_
                    have p60113 : 0 ≤ (x13_2 : Int) := of_decide_eq_true (by first | (with_reducible assumption) | assumption)
                    have q60113 : x13_2 < (t60110.length : Int) := of_decide_eq_true (by first | (with_reducible assumption) | assumption)
                    obtain ⟨ad60113, e60113, hx60113_0, hx60113_1, hx60113_2⟩ := at_T23 (Kd.R_reads' HO_12.out).2.2 x13_2 p60113 q60113
                    cases e60113
                    replace p60113 := eq_true p60113
                    replace q60113 := eq_true q60113
                    refine start_ (n := 11) (S := fun w' => w'.cell? (ad60113.add ((x13_2).toNat * 3)) = some (.int .i64 ((rd_T23 t60110 x13_2).f0)) ∧ w'.cell? ⟨(ad60113.add ((x13_2).toNat * 3)).block, (ad60113.add ((x13_2).toNat * 3)).off + 1, none⟩ = some (.int .i64 ((rd_T23 t60110 x13_2).f1)) ∧ w'.cell? ⟨(ad60113.add ((x13_2).toNat * 3)).block, (ad60113.add ((x13_2).toNat * 3)).off + 2, none⟩ = some (.int .i64 ((rd_T23 t60110 x13_2).f2))) (ds := []) #[false, false, false, false, false, false, false, false, false, false, false] (by kernel_rfl) rfl rfl ⟨hx60113_0, hx60113_1, hx60113_2⟩ (fun hHeld => ?_); refine with_tabW larderlaw03_CalWalk.tab15 larderlaw03_CalWalk.bits15 (fun HT_ HW_ => ?_)
                    generalize wr.drew = w22 at HO_12 HB hx60113_0 hx60113_1 hx60113_2 hHeld ⊢
                    refine pure_ (i := 0) (N := some 57) (v := ?_) (a' := ?_) #[true, false, false, false, false, false, false, false, false, false, false] rfl rfl (any_of HT_.out (by kernel_rfl)) (fun _ _ _ h => h) (Or.inl ⟨by rfl, ?_⟩) ?_ ?_
                    rotate_left
                    · intro w'
                      go_simp
                      with_reducible rfl
                    rotate_left
                    · simp only [Act.put, List.setIfInBounds_toArray, List.set_cons_zero, List.set_cons_succ, i64_w, i32_w]
                      rfl
                    refine pure_ (i := 1) (N := some 58) (v := ?_) (a' := ?_) #[true, true, false, false, false, false, false, false, false, false, false] rfl rfl (any_of HT_.out (by kernel_rfl)) (fun _ _ _ h => h) (Or.inl ⟨by rfl, ?_⟩) ?_ ?_
                    rotate_left
                    · intro w'
                      go_simp
                      with_reducible rfl
                    rotate_left
                    · simp only [Act.put, List.setIfInBounds_toArray, List.set_cons_zero, List.set_cons_succ, i64_w, i32_w]
                      rfl
                    refine pure_ (i := 2) (N := some 59) (v := ?_) (a' := ?_) #[true, true, true, false, false, false, false, false, false, false, false] rfl rfl (any_of HT_.out (by kernel_rfl)) (fun _ _ _ h => h) (Or.inl ⟨by rfl, ?_⟩) ?_ ?_
                    rotate_left
                    · intro w'
                      go_simp
                      with_reducible rfl
                    rotate_left
                    · simp only [Act.put, List.setIfInBounds_toArray, List.set_cons_zero, List.set_cons_succ, i64_w, i32_w]
                      rfl
                    refine pure_ (i := 4) (N := some 61) (v := ?_) (a' := ?_) #[true, true, true, false, true, false, false, false, false, false, false] rfl rfl (any_of HT_.out (by kernel_rfl)) (fun _ _ _ h => h) (Or.inl ⟨by rfl, ?_⟩) ?_ ?_
                    rotate_left
                    · intro w'
                      go_simp
                      with_reducible rfl
                    rotate_left
                    · simp only [Act.put, List.setIfInBounds_toArray, List.set_cons_zero, List.set_cons_succ, i64_w, i32_w]
                      rfl
                    refine pure_ (i := 5) (N := some 62) (v := ?_) (a' := ?_) #[true, true, true, false, true, true, false, false, false, false, false] rfl rfl (any_of HT_.out (by kernel_rfl)) (fun _ _ _ h => h) (Or.inl ⟨by rfl, ?_⟩) ?_ ?_
                    rotate_left
                    · intro w'
                      go_simp
                      with_reducible rfl
                    rotate_left
                    · simp only [Act.put, List.setIfInBounds_toArray, List.set_cons_zero, List.set_cons_succ, i64_w, i32_w]
                      rfl
                    refine pure_ (i := 6) (N := some 63) (v := ?_) (a' := ?_) #[true, true, true, false, true, true, true, false, false, false, false] rfl rfl (any_of HT_.out (by kernel_rfl)) (fun _ _ _ h => h) (Or.inl ⟨by rfl, ?_⟩) ?_ ?_
                    rotate_left
                    · intro w'
                      go_simp
                      with_reducible rfl
                    rotate_left
                    · simp only [Act.put, List.setIfInBounds_toArray, List.set_cons_zero, List.set_cons_succ, i64_w, i32_w]
                      rfl
                    refine pure_ (i := 7) (N := some 64) (v := ?_) (a' := ?_) #[true, true, true, false, true, true, true, true, false, false, false] rfl rfl (any_of HT_.out (by kernel_rfl)) (fun _ _ _ h => h) (Or.inl ⟨by rfl, ?_⟩) ?_ ?_
                    rotate_left
                    · intro w'
                      go_simp
                      with_reducible rfl
                    rotate_left
                    · simp only [Act.put, List.setIfInBounds_toArray, List.set_cons_zero, List.set_cons_succ, i64_w, i32_w]
                      rfl
                    refine pure_ (i := 8) (N := some 65) (v := ?_) (a' := ?_) #[true, true, true, false, true, true, true, true, true, false, false] rfl rfl (any_of HT_.out (by kernel_rfl)) (fun _ _ _ h => h) (Or.inl ⟨by rfl, ?_⟩) ?_ ?_
                    rotate_left
                    · intro w'
                      go_simp
                      with_reducible rfl
                    rotate_left
                    · simp only [Act.put, List.setIfInBounds_toArray, List.set_cons_zero, List.set_cons_succ, i64_w, i32_w]
                      rfl
                    refine take_ (i := 3) (N := some 60) (v := ?_) (a' := ?_) #[true, true, true, true, true, true, true, true, true, false, false] rfl rfl (take_ofW HT_.out HW_.out (by kernel_rfl)) (fun _ _ _ h => h) (Or.inl ⟨by rfl, ?_⟩) hHeld ?_ ?_
                    rotate_left
                    · rintro w' ⟨s0, s1, s2⟩
                      go_simp
                      with_reducible rfl
                    rotate_left
                    · simp only [Act.put, List.setIfInBounds_toArray, List.set_cons_zero, List.set_cons_succ, i64_w, i32_w]
                      rfl
                    refine one_ (i := 9) (N := some 66) #[true, true, true, true, true, true, true, true, true, true, false] rfl rfl (one_of HT_.out (by kernel_rfl)) (by decide) (fun K hK => ?_)
                    refine goes_ Tryd.func24 (by kernel_rfl) rfl #[.int .i64 (wrap64 (x9_5 + (wrap64 (x13_2 * (wrap64 (t60103 + (wrap64 (Int.tdiv (wrap64 (x10_5 - x9_5)) 20000))))))))] (by rfl) rfl rfl (by (try simp only [List.map_toArray, List.map_cons, List.map_nil]); first | done | rfl | (simp only [List.length_drop, List.length_take]; rfl)) ?_
                    with_reducible refine (larderlaw03_at.calls k2 (wrap64 (x9_5 + (wrap64 (x13_2 * (wrap64 (t60103 + (wrap64 (Int.tdiv (wrap64 (x10_5 - x9_5)) 20000)))))))) t60114 t60115 t60116 _ ?side1 A20.out).mono ?_
                    (case side1 => refine GlobOk.below HG.out ?_; repeat (first | (with_reducible first | exact HB.out | apply below_alloc | apply pw_below_drewN | apply below_drew1) | exact HB.out))
                    rintro e w23 ⟨rfl, hb⟩
                    have HS0_ := (hb.cell (World.block_lt_of_cell? _ _ (hHeld.1))).trans (hHeld.1)
                    have HS1_ := (hb.cell (World.block_lt_of_cell? _ _ (hHeld.2.1))).trans (hHeld.2.1)
                    have HS2_ := (hb.cell (World.block_lt_of_cell? _ _ (hHeld.2.2))).trans (hHeld.2.2)
                    refine ⟨_, rfl, ?_⟩
                    have n0_ := Aside0.mk (Kd.R_below (by (with_reducible repeat (first | apply Kd.R_alloc | apply Kd.R_drewN | apply Kd.R_drew)); exact HO_12.out) hb)
                    have n1_ := Aside0.mk (below_step (by repeat (first | (with_reducible first | exact HB.out | apply below_alloc | apply pw_below_drewN | apply below_drew1) | exact HB.out)) hb)
                    clear HO_12
                    clear HB
                    have HO_12 := n0_
                    have HB := n1_
                    clear n0_ n1_
                    (try clear hb)
                    (try clear hb2)
                    (try clear hk)
                    (try clear hi)
                    refine hK.out _ _ ⟨HS0_, HS1_, HS2_⟩ (fun hHeld => ?_)
                    clear hK K
                    refine norm_ (a' := ?_) ?_ ?_
                    rotate_left
                    · show Act.put _ (some 66) _ = _
                      simp only [Act.put, List.setIfInBounds_toArray, List.set_cons_zero, List.set_cons_succ, i64_w, i32_w]
                      rfl
                    refine pure_ (i := 10) (N := some 67) (v := ?_) (a' := ?_) #[true, true, true, true, true, true, true, true, true, true, true] rfl rfl (any_of HT_.out (by kernel_rfl)) (fun _ _ _ h => h) (Or.inl ⟨by rfl, ?_⟩) ?_ ?_
                    rotate_left
                    · intro w'
                      go_simp
                      with_reducible rfl
                    rotate_left
                    · simp only [Act.put, List.setIfInBounds_toArray, List.set_cons_zero, List.set_cons_succ, i64_w, i32_w]
                      rfl
                    refine done_ (done_of HT_.out (by kernel_rfl)) ?_
                    try go_wp2
                    go_ret
                    exact ⟨by first | rfl | (simp [errW_none, errW_some] <;> rfl) | (simp [*, errW_none, errW_some] <;> rfl), by repeat (first | (with_reducible first | exact HB.out | apply below_alloc | apply pw_below_drewN | apply below_drew1) | exact HB.out)⟩
                  · rw [if_neg c21] at H
                    have c21b0 : (!(((rd_T23 t60110 x13_2).f0) == t60114) || (!(((rd_T23 t60110 x13_2).f1) == t60115) || (!(((rd_T23 t60110 x13_2).f2) == t60116)))) = false := by simpa using c21
                    clear c21
                    have H' := Aside0.mk H
                    clear H
                    try go_wp2
                    have n0_ := Aside0.mk (Kd.R_drew HO_12.out)
                    have n1_ := Aside0.mk (below_drew1 HB.out)
                    clear HO_12
                    clear HB
                    have HO_12 := n0_
                    have HB := n1_
                    clear n0_ n1_
                    have p60113 : 0 ≤ (x13_2 : Int) := of_decide_eq_true (by first | (with_reducible assumption) | assumption)
                    have q60113 : x13_2 < (t60110.length : Int) := of_decide_eq_true (by first | (with_reducible assumption) | assumption)
                    obtain ⟨ad60113, e60113, hx60113_0, hx60113_1, hx60113_2⟩ := at_T23 (Kd.R_reads' HO_12.out).2.2 x13_2 p60113 q60113
                    cases e60113
                    replace p60113 := eq_true p60113
                    replace q60113 := eq_true q60113
                    refine start_ (n := 11) (S := fun w' => w'.cell? (ad60113.add ((x13_2).toNat * 3)) = some (.int .i64 ((rd_T23 t60110 x13_2).f0)) ∧ w'.cell? ⟨(ad60113.add ((x13_2).toNat * 3)).block, (ad60113.add ((x13_2).toNat * 3)).off + 1, none⟩ = some (.int .i64 ((rd_T23 t60110 x13_2).f1)) ∧ w'.cell? ⟨(ad60113.add ((x13_2).toNat * 3)).block, (ad60113.add ((x13_2).toNat * 3)).off + 2, none⟩ = some (.int .i64 ((rd_T23 t60110 x13_2).f2))) (ds := []) #[false, false, false, false, false, false, false, false, false, false, false] (by kernel_rfl) rfl rfl ⟨hx60113_0, hx60113_1, hx60113_2⟩ (fun hHeld => ?_); refine with_tabW larderlaw03_CalWalk.tab15 larderlaw03_CalWalk.bits15 (fun HT_ HW_ => ?_)
                    generalize wr.drew = w24 at HO_12 HB hx60113_0 hx60113_1 hx60113_2 hHeld ⊢
                    refine pure_ (i := 0) (N := some 57) (v := ?_) (a' := ?_) #[true, false, false, false, false, false, false, false, false, false, false] rfl rfl (any_of HT_.out (by kernel_rfl)) (fun _ _ _ h => h) (Or.inl ⟨by rfl, ?_⟩) ?_ ?_
                    rotate_left
                    · intro w'
                      go_simp
                      with_reducible rfl
                    rotate_left
                    · simp only [Act.put, List.setIfInBounds_toArray, List.set_cons_zero, List.set_cons_succ, i64_w, i32_w]
                      rfl
                    refine pure_ (i := 1) (N := some 58) (v := ?_) (a' := ?_) #[true, true, false, false, false, false, false, false, false, false, false] rfl rfl (any_of HT_.out (by kernel_rfl)) (fun _ _ _ h => h) (Or.inl ⟨by rfl, ?_⟩) ?_ ?_
                    rotate_left
                    · intro w'
                      go_simp
                      with_reducible rfl
                    rotate_left
                    · simp only [Act.put, List.setIfInBounds_toArray, List.set_cons_zero, List.set_cons_succ, i64_w, i32_w]
                      rfl
                    refine pure_ (i := 2) (N := some 59) (v := ?_) (a' := ?_) #[true, true, true, false, false, false, false, false, false, false, false] rfl rfl (any_of HT_.out (by kernel_rfl)) (fun _ _ _ h => h) (Or.inl ⟨by rfl, ?_⟩) ?_ ?_
                    rotate_left
                    · intro w'
                      go_simp
                      with_reducible rfl
                    rotate_left
                    · simp only [Act.put, List.setIfInBounds_toArray, List.set_cons_zero, List.set_cons_succ, i64_w, i32_w]
                      rfl
                    refine pure_ (i := 4) (N := some 61) (v := ?_) (a' := ?_) #[true, true, true, false, true, false, false, false, false, false, false] rfl rfl (any_of HT_.out (by kernel_rfl)) (fun _ _ _ h => h) (Or.inl ⟨by rfl, ?_⟩) ?_ ?_
                    rotate_left
                    · intro w'
                      go_simp
                      with_reducible rfl
                    rotate_left
                    · simp only [Act.put, List.setIfInBounds_toArray, List.set_cons_zero, List.set_cons_succ, i64_w, i32_w]
                      rfl
                    refine pure_ (i := 5) (N := some 62) (v := ?_) (a' := ?_) #[true, true, true, false, true, true, false, false, false, false, false] rfl rfl (any_of HT_.out (by kernel_rfl)) (fun _ _ _ h => h) (Or.inl ⟨by rfl, ?_⟩) ?_ ?_
                    rotate_left
                    · intro w'
                      go_simp
                      with_reducible rfl
                    rotate_left
                    · simp only [Act.put, List.setIfInBounds_toArray, List.set_cons_zero, List.set_cons_succ, i64_w, i32_w]
                      rfl
                    refine pure_ (i := 6) (N := some 63) (v := ?_) (a' := ?_) #[true, true, true, false, true, true, true, false, false, false, false] rfl rfl (any_of HT_.out (by kernel_rfl)) (fun _ _ _ h => h) (Or.inl ⟨by rfl, ?_⟩) ?_ ?_
                    rotate_left
                    · intro w'
                      go_simp
                      with_reducible rfl
                    rotate_left
                    · simp only [Act.put, List.setIfInBounds_toArray, List.set_cons_zero, List.set_cons_succ, i64_w, i32_w]
                      rfl
                    refine pure_ (i := 7) (N := some 64) (v := ?_) (a' := ?_) #[true, true, true, false, true, true, true, true, false, false, false] rfl rfl (any_of HT_.out (by kernel_rfl)) (fun _ _ _ h => h) (Or.inl ⟨by rfl, ?_⟩) ?_ ?_
                    rotate_left
                    · intro w'
                      go_simp
                      with_reducible rfl
                    rotate_left
                    · simp only [Act.put, List.setIfInBounds_toArray, List.set_cons_zero, List.set_cons_succ, i64_w, i32_w]
                      rfl
                    refine pure_ (i := 8) (N := some 65) (v := ?_) (a' := ?_) #[true, true, true, false, true, true, true, true, true, false, false] rfl rfl (any_of HT_.out (by kernel_rfl)) (fun _ _ _ h => h) (Or.inl ⟨by rfl, ?_⟩) ?_ ?_
                    rotate_left
                    · intro w'
                      go_simp
                      with_reducible rfl
                    rotate_left
                    · simp only [Act.put, List.setIfInBounds_toArray, List.set_cons_zero, List.set_cons_succ, i64_w, i32_w]
                      rfl
                    refine take_ (i := 3) (N := some 60) (v := ?_) (a' := ?_) #[true, true, true, true, true, true, true, true, true, false, false] rfl rfl (take_ofW HT_.out HW_.out (by kernel_rfl)) (fun _ _ _ h => h) (Or.inl ⟨by rfl, ?_⟩) hHeld ?_ ?_
                    rotate_left
                    · rintro w' ⟨s0, s1, s2⟩
                      go_simp
                      with_reducible rfl
                    rotate_left
                    · simp only [Act.put, List.setIfInBounds_toArray, List.set_cons_zero, List.set_cons_succ, i64_w, i32_w]
                      rfl
                    refine one_ (i := 9) (N := some 66) #[true, true, true, true, true, true, true, true, true, true, false] rfl rfl (one_of HT_.out (by kernel_rfl)) (by decide) (fun K hK => ?_)
                    refine goes_ Tryd.func24 (by kernel_rfl) rfl #[.int .i64 (wrap64 (x9_5 + (wrap64 (x13_2 * (wrap64 (t60103 + (wrap64 (Int.tdiv (wrap64 (x10_5 - x9_5)) 20000))))))))] (by rfl) rfl rfl (by (try simp only [List.map_toArray, List.map_cons, List.map_nil]); first | done | rfl | (simp only [List.length_drop, List.length_take]; rfl)) ?_
                    with_reducible refine (larderlaw03_at.calls k2 (wrap64 (x9_5 + (wrap64 (x13_2 * (wrap64 (t60103 + (wrap64 (Int.tdiv (wrap64 (x10_5 - x9_5)) 20000)))))))) t60114 t60115 t60116 _ ?side1 A20.out).mono ?_
                    (case side1 => refine GlobOk.below HG.out ?_; repeat (first | (with_reducible first | exact HB.out | apply below_alloc | apply pw_below_drewN | apply below_drew1) | exact HB.out))
                    rintro e w25 ⟨rfl, hb⟩
                    have HS0_ := (hb.cell (World.block_lt_of_cell? _ _ (hHeld.1))).trans (hHeld.1)
                    have HS1_ := (hb.cell (World.block_lt_of_cell? _ _ (hHeld.2.1))).trans (hHeld.2.1)
                    have HS2_ := (hb.cell (World.block_lt_of_cell? _ _ (hHeld.2.2))).trans (hHeld.2.2)
                    refine ⟨_, rfl, ?_⟩
                    have n0_ := Aside0.mk (Kd.R_below (by (with_reducible repeat (first | apply Kd.R_alloc | apply Kd.R_drewN | apply Kd.R_drew)); exact HO_12.out) hb)
                    have n1_ := Aside0.mk (below_step (by repeat (first | (with_reducible first | exact HB.out | apply below_alloc | apply pw_below_drewN | apply below_drew1) | exact HB.out)) hb)
                    clear HO_12
                    clear HB
                    have HO_12 := n0_
                    have HB := n1_
                    clear n0_ n1_
                    (try clear hb)
                    (try clear hb2)
                    (try clear hk)
                    (try clear hi)
                    refine hK.out _ _ ⟨HS0_, HS1_, HS2_⟩ (fun hHeld => ?_)
                    clear hK K
                    refine norm_ (a' := ?_) ?_ ?_
                    rotate_left
                    · show Act.put _ (some 66) _ = _
                      simp only [Act.put, List.setIfInBounds_toArray, List.set_cons_zero, List.set_cons_succ, i64_w, i32_w]
                      rfl
                    refine pure_ (i := 10) (N := some 67) (v := ?_) (a' := ?_) #[true, true, true, true, true, true, true, true, true, true, true] rfl rfl (any_of HT_.out (by kernel_rfl)) (fun _ _ _ h => h) (Or.inl ⟨by rfl, ?_⟩) ?_ ?_
                    rotate_left
                    · intro w'
                      go_simp
                      with_reducible rfl
                    rotate_left
                    · simp only [Act.put, List.setIfInBounds_toArray, List.set_cons_zero, List.set_cons_succ, i64_w, i32_w]
                      rfl
                    refine done_ (done_of HT_.out (by kernel_rfl)) ?_
                    try go_wp2
                    go_roundg k2
                    case measure => have := HJ5.out; have := HK2.out; omega
                    case rel => exact ⟨(wrap64 (x13_2 + 1)), (by first | rfl | (simp; done) | (simp [*]; done)), H', ⟨by have := HJ5.out; have := HK2.out; omega⟩, ⟨by (with_reducible repeat (first | apply Kd.R_alloc | apply Kd.R_drewN | apply Kd.R_drew)); exact HO_12.out⟩, ⟨by repeat (first | (with_reducible first | exact HB.out | apply below_alloc | apply pw_below_drewN | apply below_drew1) | exact HB.out)⟩⟩
                · rw [if_neg c19] at H
                  exact absurd H (by simp)
              · rw [if_neg c18] at H
                have c18b0 : decide (x13_2 < (t60110.length : Int)) = false := decide_eq_false c18
                clear c18
                replace H := Option.bind_eq_some_iff.mp H
                obtain ⟨⟨t60117, t60118, t60119⟩, A260, H⟩ := H
                replace H : ((larderlaw03_at.f k2 x9_5).bind fun bt60120 => ((larderlaw03_walked.f t60117 t60118 t60119 bt60120.1 bt60120.2.1 bt60120.2.2 (wrap64 (-(wrap64 (t60103 + (wrap64 (Int.tdiv (wrap64 (x10_5 - x9_5)) 20000)))))) 1073741824).bind fun t60123 => (if (t60123.length : Int) = (t60110.length : Int) then (larderlaw03_CalWalk.l1 k2 x9_5 x10_5 (wrap64 (t60103 + (wrap64 (Int.tdiv (wrap64 (x10_5 - x9_5)) 20000)))) t60110 t60123 0) else (some false)))) = some r := H
                have A26 := Aside0.mk A260
                clear A260
                replace H := Option.bind_eq_some_iff.mp H
                obtain ⟨⟨t60120, t60121, t60122⟩, A270, H⟩ := H
                replace H : ((larderlaw03_walked.f t60117 t60118 t60119 t60120 t60121 t60122 (wrap64 (-(wrap64 (t60103 + (wrap64 (Int.tdiv (wrap64 (x10_5 - x9_5)) 20000)))))) 1073741824).bind fun t60123 => (if (t60123.length : Int) = (t60110.length : Int) then (larderlaw03_CalWalk.l1 k2 x9_5 x10_5 (wrap64 (t60103 + (wrap64 (Int.tdiv (wrap64 (x10_5 - x9_5)) 20000)))) t60110 t60123 0) else (some false))) = some r := H
                have A27 := Aside0.mk A270
                clear A270
                replace H := Option.bind_eq_some_iff.mp H
                obtain ⟨t60123, A280, H⟩ := H
                replace H : (if (t60123.length : Int) = (t60110.length : Int) then (larderlaw03_CalWalk.l1 k2 x9_5 x10_5 (wrap64 (t60103 + (wrap64 (Int.tdiv (wrap64 (x10_5 - x9_5)) 20000)))) t60110 t60123 0) else (some false)) = some r := H
                have A28 := Aside0.mk A280
                clear A280
                by_cases c29 : (t60123.length : Int) = (t60110.length : Int)
                · rw [if_pos c29] at H
                  have c29b0 : ((t60123.length : Int) == (t60110.length : Int)) = true := beq_iff_eq.mpr c29
                  have c29b1 : ((t60123.length : Int) != (t60110.length : Int)) = false := bne_eq_false_iff_eq.mpr c29
                  have c29b2 : (t60123.length == t60110.length) = true := by first | simpa using c29 | (simp at c29 ⊢; omega)
                  clear c29
                  have H' := Aside0.mk H
                  clear H
                  go_wp2_with (first | ((with_reducible refine gate_callee (f := 24) rfl ?_); refine goesL_ (some 76) rfl rfl Tryd.func24 (by kernel_rfl) rfl #[.int .i64 (wrap64 (x9_5 + (wrap64 ((wrap64 ((t60110.length : Int) - 1)) * (wrap64 (t60103 + (wrap64 (Int.tdiv (wrap64 (x10_5 - x9_5)) 20000))))))))] rfl (by (try simp only [List.map_toArray, List.map_cons, List.map_nil]); first | done | rfl | (simp only [List.length_drop, List.length_take]; rfl)) ?_; (with_reducible refine (larderlaw03_at.calls k2 (wrap64 (x9_5 + (wrap64 ((wrap64 ((t60110.length : Int) - 1)) * (wrap64 (t60103 + (wrap64 (Int.tdiv (wrap64 (x10_5 - x9_5)) 20000)))))))) t60117 t60118 t60119 _ ?side1 A26.out).mono ?_); (case side1 => refine GlobOk.below HG.out ?_; repeat (first | (with_reducible first | exact HB.out | apply below_alloc | apply pw_below_drewN | apply below_drew1) | exact HB.out)); rintro e w30 ⟨rfl, hb⟩; refine ⟨_, rfl, ?_⟩; have n0_ := Aside0.mk (Kd.R_below (by (with_reducible repeat (first | apply Kd.R_alloc | apply Kd.R_drewN | apply Kd.R_drew)); exact HO_12.out) hb); have n1_ := Aside0.mk (below_step (by repeat (first | (with_reducible first | exact HB.out | apply below_alloc | apply pw_below_drewN | apply below_drew1) | exact HB.out)) hb); clear HO_12; clear HB; have HO_12 := n0_; have HB := n1_; clear n0_ n1_; (try clear hb); (try clear hb2); (try clear hk); (try clear hi)) | ((with_reducible refine gate_callee (f := 24) rfl ?_); refine goesL_ (some 78) rfl rfl Tryd.func24 (by kernel_rfl) rfl #[.int .i64 x9_5] rfl (by (try simp only [List.map_toArray, List.map_cons, List.map_nil]); first | done | rfl | (simp only [List.length_drop, List.length_take]; rfl)) ?_; (with_reducible refine (larderlaw03_at.calls k2 x9_5 t60120 t60121 t60122 _ ?side1 A27.out).mono ?_); (case side1 => refine GlobOk.below HG.out ?_; repeat (first | (with_reducible first | exact HB.out | apply below_alloc | apply pw_below_drewN | apply below_drew1) | exact HB.out)); rintro e w31 ⟨rfl, hb⟩; refine ⟨_, rfl, ?_⟩; have n0_ := Aside0.mk (Kd.R_below (by (with_reducible repeat (first | apply Kd.R_alloc | apply Kd.R_drewN | apply Kd.R_drew)); exact HO_12.out) hb); have n1_ := Aside0.mk (below_step (by repeat (first | (with_reducible first | exact HB.out | apply below_alloc | apply pw_below_drewN | apply below_drew1) | exact HB.out)) hb); clear HO_12; clear HB; have HO_12 := n0_; have HB := n1_; clear n0_ n1_; (try clear hb); (try clear hb2); (try clear hk); (try clear hi)) | ((with_reducible refine gate_callee (f := 20) rfl ?_); refine goesL_ (some 81) rfl rfl Tryd.func20 (by kernel_rfl) rfl #[.agg #[.int .i64 t60117, .int .i64 t60118, .int .i64 t60119], .agg #[.int .i64 t60120, .int .i64 t60121, .int .i64 t60122], .int .i64 (wrap64 (-(wrap64 (t60103 + (wrap64 (Int.tdiv (wrap64 (x10_5 - x9_5)) 20000)))))), .int .i64 1073741824] rfl (by (try simp only [List.map_toArray, List.map_cons, List.map_nil]); first | done | rfl | (simp only [List.length_drop, List.length_take]; rfl)) ?_; (with_reducible refine (larderlaw03_walked.calls t60117 t60118 t60119 t60120 t60121 t60122 (wrap64 (-(wrap64 (t60103 + (wrap64 (Int.tdiv (wrap64 (x10_5 - x9_5)) 20000)))))) 1073741824 t60123 _ ?side1 A28.out).mono ?_); (case side1 => refine GlobOk.below HG.out ?_; repeat (first | (with_reducible first | exact HB.out | apply below_alloc | apply pw_below_drewN | apply below_drew1) | exact HB.out)); rintro e w32 ⟨v60124, rfl, ho0, hb⟩; refine ⟨_, rfl, ?_⟩; have n0_ := Aside0.mk (Kd.R_elder' (by (with_reducible repeat (first | apply Kd.R_alloc | apply Kd.R_drewN | apply Kd.R_drew)); exact HO_12.out) (Kd.R_base ho0) hb); have n1_ := Aside0.mk (Kd.R_lower (Kd.R_new' ho0 (Kd.R_lt (by (with_reducible repeat (first | apply Kd.R_alloc | apply Kd.R_drewN | apply Kd.R_drew)); exact HO_12.out))) (below_size (by repeat (first | (with_reducible first | exact HB.out | apply below_alloc | apply pw_below_drewN | apply below_drew1) | exact HB.out)))); have n2_ := Aside0.mk (below_step (by repeat (first | (with_reducible first | exact HB.out | apply below_alloc | apply pw_below_drewN | apply below_drew1) | exact HB.out)) hb); clear HO_12; clear HB; have HO_12 := n0_; have HO60125 := n1_; have HB := n2_; clear n0_ n1_ n2_; (try clear hb); (try clear hb2); (try clear hk); (try clear hi); (try clear ho0); obtain ⟨Ao33, co33, eo33⟩ := Kd.R_slice HO60125.out; subst eo33))
                  go_loopg [16] k2 (fun kq v16 w' => ∃ (x16_3 : Int), v16 = .int .i64 x16_3 ∧ Aside0 (larderlaw03_CalWalk.l1 kq x9_5 x10_5 (wrap64 (t60103 + (wrap64 (Int.tdiv (wrap64 (x10_5 - x9_5)) 20000)))) t60110 t60123 x16_3 = some r) ∧ Aside0 (kq ≤ k2) ∧ Aside0 (Kd.R k23 23 w' w.heap.size (fun k_ => some k_ ≠ ((.slice Ao33 t60123.length co33) : Value).ownBlock) (.slice Ao17 t60110.length co17) t60110) ∧ Aside0 (Kd.R k23 23 w' w.heap.size (fun k_ => some k_ ≠ ((.slice Ao17 t60110.length co17) : Value).ownBlock) (.slice Ao33 t60123.length co33) t60123) ∧ Aside0 (Below w.heap.size w w'))
                  case atStart => exact ⟨(0), (by first | rfl | (simp; done) | (simp [*]; done)), H', ⟨Nat.le_refl _⟩, ⟨by (with_reducible repeat (first | apply Kd.R_alloc | apply Kd.R_drewN | apply Kd.R_drew)); exact Kd.R_mono HO_12.out (fun _ hk => hk.2)⟩, ⟨by (with_reducible repeat (first | apply Kd.R_alloc | apply Kd.R_drewN | apply Kd.R_drew)); exact Kd.R_mono HO60125.out (fun _ hk => hk.2)⟩, ⟨by repeat (first | (with_reducible first | exact HB.out | apply below_alloc | apply pw_below_drewN | apply below_drew1) | exact HB.out)⟩⟩
                  case round =>
                    clear H'
                    try clear c1
                    try clear c2
                    try clear p2
                    try clear c6
                    try clear p6
                    try clear q6
                    try clear hx6
                    try clear c7
                    try clear c7b0
                    try clear c12
                    try clear c12b0
                    try clear c12b1
                    try clear c13
                    try clear c13b0
                    try clear c13b1
                    try clear c18
                    try clear c18b0
                    try clear c19
                    try clear c19b0
                    try clear c20
                    try clear c21
                    try clear c21b0
                    try clear c24
                    try clear c29
                    try clear c29b0
                    try clear c29b1
                    try clear c29b2
                    try clear hx60113_0
                    try clear hx60113_1
                    try clear hx60113_2
                    try clear p2
                    try clear p6
                    try clear p60113
                    try clear q60113
                    obtain ⟨x16_3, rfl, HA, HK3, HO_12, HO_15, HB⟩ := hrel
                    cases gk with
                    | zero => exact absurd HA.out (by simp [larderlaw03_CalWalk.l1])
                    | succ k3 =>
                      have H := HA.out
                      clear HA
                      simp only [larderlaw03_CalWalk.l1] at H
                      by_cases c34 : x16_3 < (t60110.length : Int)
                      · rw [if_pos c34] at H
                        have c34b0 : decide (x16_3 < (t60110.length : Int)) = true := decide_eq_true c34
                        clear c34
                        by_cases c35 : 0 ≤ x16_3
                        · rw [if_pos c35] at H
                          have c35b0 : decide (0 ≤ x16_3) = true := decide_eq_true c35
                          clear c35
                          by_cases c36 : x16_3 < (t60123.length : Int)
                          · rw [if_pos c36] at H
                            have c36b0 : decide (x16_3 < (t60123.length : Int)) = true := decide_eq_true c36
                            clear c36
                            obtain ⟨ji37, hji37⟩ : ∃ j_ : Int, (wrap64 ((wrap64 ((t60110.length : Int) - 1)) - x16_3)) = j_ := ⟨_, rfl⟩
                            replace H : (if 0 ≤ (ji37) then (if (ji37) < (t60110.length : Int) then (if (!(((rd_T23 t60123 x16_3).f0) == ((rd_T23 t60110 (ji37)).f0)) || (!(((rd_T23 t60123 x16_3).f1) == ((rd_T23 t60110 (ji37)).f1)) || (!(((rd_T23 t60123 x16_3).f2) == ((rd_T23 t60110 (ji37)).f2))))) = true then (some false) else (larderlaw03_CalWalk.l1 k3 x9_5 x10_5 (wrap64 (t60103 + (wrap64 (Int.tdiv (wrap64 (x10_5 - x9_5)) 20000)))) t60110 t60123 (wrap64 (x16_3 + 1)))) else (none)) else (none)) = some r := by first | (rw [hji37] at H; exact H) | (simp only [hji37] at H ⊢; exact H)
                            have hji37w : (IntKind.i64.wrap ((wrap64 ((t60110.length : Int) - 1)) - x16_3)) = ji37 := (i64_w _).trans hji37
                            by_cases c38 : 0 ≤ (ji37)
                            · rw [if_pos c38] at H
                              have c38b0 : decide (0 ≤ (ji37)) = true := decide_eq_true c38
                              clear c38
                              by_cases c39 : (ji37) < (t60110.length : Int)
                              · rw [if_pos c39] at H
                                have c39b0 : decide ((ji37) < (t60110.length : Int)) = true := decide_eq_true c39
                                clear c39
                                by_cases c40 : (!(((rd_T23 t60123 x16_3).f0) == ((rd_T23 t60110 (ji37)).f0)) || (!(((rd_T23 t60123 x16_3).f1) == ((rd_T23 t60110 (ji37)).f1)) || (!(((rd_T23 t60123 x16_3).f2) == ((rd_T23 t60110 (ji37)).f2))))) = true
                                · rw [if_pos c40] at H
                                  have c40b0 : (!(((rd_T23 t60123 x16_3).f0) == ((rd_T23 t60110 (ji37)).f0)) || (!(((rd_T23 t60123 x16_3).f1) == ((rd_T23 t60110 (ji37)).f1)) || (!(((rd_T23 t60123 x16_3).f2) == ((rd_T23 t60110 (ji37)).f2))))) = true := c40
                                  clear c40
                                  obtain rfl := Option.some.inj H
                                  try go_wp2
                                  have n0_ := Aside0.mk (Kd.R_drew HO_12.out)
                                  have n1_ := Aside0.mk (Kd.R_drew HO_15.out)
                                  have n2_ := Aside0.mk (below_drew1 HB.out)
                                  clear HO_12
                                  clear HO_15
                                  clear HB
                                  have HO_12 := n0_
                                  have HO_15 := n1_
                                  have HB := n2_
                                  clear n0_ n1_ n2_
                                  have p60126 : 0 ≤ (x16_3 : Int) := of_decide_eq_true (by first | (with_reducible assumption) | assumption)
                                  have q60126 : x16_3 < (t60123.length : Int) := of_decide_eq_true (by first | (with_reducible assumption) | assumption)
                                  obtain ⟨ad60126, e60126, hx60126_0, hx60126_1, hx60126_2⟩ := at_T23 (Kd.R_reads' HO_15.out).2.2 x16_3 p60126 q60126
                                  cases e60126
                                  replace p60126 := eq_true p60126
                                  replace q60126 := eq_true q60126
                                  have p60127 : 0 ≤ ((ji37) : Int) := of_decide_eq_true (by first | (with_reducible assumption) | assumption)
                                  have q60127 : (ji37) < (t60110.length : Int) := of_decide_eq_true (by first | (with_reducible assumption) | assumption)
                                  obtain ⟨ad60127, e60127, hx60127_0, hx60127_1, hx60127_2⟩ := at_T23 (Kd.R_reads' HO_12.out).2.2 (ji37) p60127 q60127
                                  cases e60127
                                  replace p60127 := eq_true p60127
                                  replace q60127 := eq_true q60127
                                  refine start_ (n := 13) (S := fun w' => w'.cell? (ad60126.add ((x16_3).toNat * 3)) = some (.int .i64 ((rd_T23 t60123 x16_3).f0)) ∧ w'.cell? ⟨(ad60126.add ((x16_3).toNat * 3)).block, (ad60126.add ((x16_3).toNat * 3)).off + 1, none⟩ = some (.int .i64 ((rd_T23 t60123 x16_3).f1)) ∧ w'.cell? ⟨(ad60126.add ((x16_3).toNat * 3)).block, (ad60126.add ((x16_3).toNat * 3)).off + 2, none⟩ = some (.int .i64 ((rd_T23 t60123 x16_3).f2)) ∧ w'.cell? (ad60127.add (((ji37)).toNat * 3)) = some (.int .i64 ((rd_T23 t60110 (ji37)).f0)) ∧ w'.cell? ⟨(ad60127.add (((ji37)).toNat * 3)).block, (ad60127.add (((ji37)).toNat * 3)).off + 1, none⟩ = some (.int .i64 ((rd_T23 t60110 (ji37)).f1)) ∧ w'.cell? ⟨(ad60127.add (((ji37)).toNat * 3)).block, (ad60127.add (((ji37)).toNat * 3)).off + 2, none⟩ = some (.int .i64 ((rd_T23 t60110 (ji37)).f2))) (ds := []) #[false, false, false, false, false, false, false, false, false, false, false, false, false] (by kernel_rfl) rfl rfl ⟨hx60126_0, hx60126_1, hx60126_2, hx60127_0, hx60127_1, hx60127_2⟩ (fun hHeld => ?_); refine with_tabW larderlaw03_CalWalk.tab24 larderlaw03_CalWalk.bits24 (fun HT_ HW_ => ?_)
                                  generalize wr.drew = w41 at HO_12 HO_15 HB hx60126_0 hx60126_1 hx60126_2 hx60127_0 hx60127_1 hx60127_2 hHeld ⊢
                                  refine pure_ (i := 0) (N := some 93) (v := ?_) (a' := ?_) #[true, false, false, false, false, false, false, false, false, false, false, false, false] rfl rfl (any_of HT_.out (by kernel_rfl)) (fun _ _ _ h => h) (Or.inl ⟨by rfl, ?_⟩) ?_ ?_
                                  rotate_left
                                  · intro w'
                                    go_simp
                                    with_reducible rfl
                                  rotate_left
                                  · simp only [Act.put, List.setIfInBounds_toArray, List.set_cons_zero, List.set_cons_succ, i64_w, i32_w]
                                    rfl
                                  refine pure_ (i := 1) (N := some 94) (v := ?_) (a' := ?_) #[true, true, false, false, false, false, false, false, false, false, false, false, false] rfl rfl (any_of HT_.out (by kernel_rfl)) (fun _ _ _ h => h) (Or.inl ⟨by rfl, ?_⟩) ?_ ?_
                                  rotate_left
                                  · intro w'
                                    go_simp
                                    with_reducible rfl
                                  rotate_left
                                  · simp only [Act.put, List.setIfInBounds_toArray, List.set_cons_zero, List.set_cons_succ, i64_w, i32_w]
                                    rfl
                                  refine pure_ (i := 2) (N := some 95) (v := ?_) (a' := ?_) #[true, true, true, false, false, false, false, false, false, false, false, false, false] rfl rfl (any_of HT_.out (by kernel_rfl)) (fun _ _ _ h => h) (Or.inl ⟨by rfl, ?_⟩) ?_ ?_
                                  rotate_left
                                  · intro w'
                                    go_simp
                                    with_reducible rfl
                                  rotate_left
                                  · simp only [Act.put, List.setIfInBounds_toArray, List.set_cons_zero, List.set_cons_succ, i64_w, i32_w]
                                    rfl
                                  refine pure_ (i := 4) (N := some 97) (v := ?_) (a' := ?_) #[true, true, true, false, true, false, false, false, false, false, false, false, false] rfl rfl (any_of HT_.out (by kernel_rfl)) (fun _ _ _ h => h) (Or.inl ⟨by rfl, ?_⟩) ?_ ?_
                                  rotate_left
                                  · intro w'
                                    go_simp
                                    with_reducible rfl
                                  rotate_left
                                  · simp only [Act.put, List.setIfInBounds_toArray, List.set_cons_zero, List.set_cons_succ, i64_w, i32_w]
                                    rfl
                                  refine pure_ (i := 5) (N := some 98) (v := ?_) (a' := ?_) #[true, true, true, false, true, true, false, false, false, false, false, false, false] rfl rfl (any_of HT_.out (by kernel_rfl)) (fun _ _ _ h => h) (Or.inl ⟨by rfl, ?_⟩) ?_ ?_
                                  rotate_left
                                  · intro w'
                                    go_simp
                                    with_reducible rfl
                                  rotate_left
                                  · simp only [Act.put, List.setIfInBounds_toArray, List.set_cons_zero, List.set_cons_succ, i64_w, i32_w]
                                    rfl
                                  refine pure_ (i := 6) (N := some 99) (v := ?_) (a' := ?_) #[true, true, true, false, true, true, true, false, false, false, false, false, false] rfl rfl (any_of HT_.out (by kernel_rfl)) (fun _ _ _ h => h) (Or.inl ⟨by rfl, ?_⟩) ?_ ?_
                                  rotate_left
                                  · intro w'
                                    go_simp
                                    with_reducible rfl
                                  rotate_left
                                  · simp only [Act.put, List.setIfInBounds_toArray, List.set_cons_zero, List.set_cons_succ, i64_w, i32_w]
                                    rfl
                                  refine pure_ (i := 7) (N := some 100) (v := ?_) (a' := ?_) #[true, true, true, false, true, true, true, true, false, false, false, false, false] rfl rfl (any_of HT_.out (by kernel_rfl)) (fun _ _ _ h => h) (Or.inl ⟨by rfl, ?_⟩) ?_ ?_
                                  rotate_left
                                  · intro w'
                                    go_simp
                                    with_reducible rfl
                                  rotate_left
                                  · simp only [Act.put, List.setIfInBounds_toArray, List.set_cons_zero, List.set_cons_succ, i64_w, i32_w]
                                    rfl
                                  refine pure_ (i := 8) (N := some 101) (v := ?_) (a' := ?_) #[true, true, true, false, true, true, true, true, true, false, false, false, false] rfl rfl (any_of HT_.out (by kernel_rfl)) (fun _ _ _ h => h) (Or.inl ⟨by rfl, ?_⟩) ?_ ?_
                                  rotate_left
                                  · intro w'
                                    go_simp
                                    with_reducible rfl
                                  rotate_left
                                  · simp only [Act.put, List.setIfInBounds_toArray, List.set_cons_zero, List.set_cons_succ, i64_w, i32_w]
                                    rfl
                                  refine pure_ (i := 9) (N := some 102) (v := ?_) (a' := ?_) #[true, true, true, false, true, true, true, true, true, true, false, false, false] rfl rfl (any_of HT_.out (by kernel_rfl)) (fun _ _ _ h => h) (Or.inl ⟨by rfl, ?_⟩) ?_ ?_
                                  rotate_left
                                  · intro w'
                                    go_simp
                                    with_reducible rfl
                                  rotate_left
                                  · simp only [Act.put, List.setIfInBounds_toArray, List.set_cons_zero, List.set_cons_succ, i64_w, i32_w]
                                    rfl
                                  refine pure_ (i := 10) (N := some 103) (v := ?_) (a' := ?_) #[true, true, true, false, true, true, true, true, true, true, true, false, false] rfl rfl (any_of HT_.out (by kernel_rfl)) (fun _ _ _ h => h) (Or.inl ⟨by rfl, ?_⟩) ?_ ?_
                                  rotate_left
                                  · intro w'
                                    go_simp
                                    with_reducible rfl
                                  rotate_left
                                  · simp only [Act.put, List.setIfInBounds_toArray, List.set_cons_zero, List.set_cons_succ, i64_w, i32_w]
                                    rfl
                                  refine take_ (i := 3) (N := some 96) (v := ?_) (a' := ?_) #[true, true, true, true, true, true, true, true, true, true, true, false, false] rfl rfl (take_ofW HT_.out HW_.out (by kernel_rfl)) (fun _ _ _ h => h) (Or.inl ⟨by rfl, ?_⟩) hHeld ?_ ?_
                                  rotate_left
                                  · rintro w' ⟨s0, s1, s2, s3, s4, s5⟩
                                    go_simp
                                    with_reducible rfl
                                  rotate_left
                                  · simp only [Act.put, List.setIfInBounds_toArray, List.set_cons_zero, List.set_cons_succ, i64_w, i32_w]
                                    rfl
                                  refine take_ (i := 11) (N := some 104) (v := ?_) (a' := ?_) #[true, true, true, true, true, true, true, true, true, true, true, true, false] rfl rfl (take_ofW HT_.out HW_.out (by kernel_rfl)) (fun _ _ _ h => h) (Or.inl ⟨by rfl, ?_⟩) hHeld ?_ ?_
                                  rotate_left
                                  · rintro w' ⟨s0, s1, s2, s3, s4, s5⟩
                                    go_simp
                                    with_reducible rfl
                                  rotate_left
                                  · simp only [Act.put, List.setIfInBounds_toArray, List.set_cons_zero, List.set_cons_succ, i64_w, i32_w]
                                    rfl
                                  refine pure_ (i := 12) (N := some 105) (v := ?_) (a' := ?_) #[true, true, true, true, true, true, true, true, true, true, true, true, true] rfl rfl (any_of HT_.out (by kernel_rfl)) (fun _ _ _ h => h) (Or.inl ⟨by rfl, ?_⟩) ?_ ?_
                                  rotate_left
                                  · intro w'
                                    go_simp
                                    with_reducible rfl
                                  rotate_left
                                  · simp only [Act.put, List.setIfInBounds_toArray, List.set_cons_zero, List.set_cons_succ, i64_w, i32_w]
                                    rfl
                                  refine done_ (done_of HT_.out (by kernel_rfl)) ?_
                                  try go_wp2
                                  go_ret
                                  exact ⟨by first | rfl | (simp [errW_none, errW_some] <;> rfl) | (simp only [← hji37]; first | rfl | (simp [errW_none, errW_some] <;> rfl)) | (simp [*, errW_none, errW_some] <;> rfl), by repeat (first | (with_reducible first | exact HB.out | apply below_alloc | apply pw_below_drewN | apply below_drew1) | exact HB.out)⟩
                                · rw [if_neg c40] at H
                                  have c40b0 : (!(((rd_T23 t60123 x16_3).f0) == ((rd_T23 t60110 (ji37)).f0)) || (!(((rd_T23 t60123 x16_3).f1) == ((rd_T23 t60110 (ji37)).f1)) || (!(((rd_T23 t60123 x16_3).f2) == ((rd_T23 t60110 (ji37)).f2))))) = false := by simpa using c40
                                  clear c40
                                  have H' := Aside0.mk H
                                  clear H
                                  try go_wp2
                                  have n0_ := Aside0.mk (Kd.R_drew HO_12.out)
                                  have n1_ := Aside0.mk (Kd.R_drew HO_15.out)
                                  have n2_ := Aside0.mk (below_drew1 HB.out)
                                  clear HO_12
                                  clear HO_15
                                  clear HB
                                  have HO_12 := n0_
                                  have HO_15 := n1_
                                  have HB := n2_
                                  clear n0_ n1_ n2_
                                  have p60126 : 0 ≤ (x16_3 : Int) := of_decide_eq_true (by first | (with_reducible assumption) | assumption)
                                  have q60126 : x16_3 < (t60123.length : Int) := of_decide_eq_true (by first | (with_reducible assumption) | assumption)
                                  obtain ⟨ad60126, e60126, hx60126_0, hx60126_1, hx60126_2⟩ := at_T23 (Kd.R_reads' HO_15.out).2.2 x16_3 p60126 q60126
                                  cases e60126
                                  replace p60126 := eq_true p60126
                                  replace q60126 := eq_true q60126
                                  have p60127 : 0 ≤ ((ji37) : Int) := of_decide_eq_true (by first | (with_reducible assumption) | assumption)
                                  have q60127 : (ji37) < (t60110.length : Int) := of_decide_eq_true (by first | (with_reducible assumption) | assumption)
                                  obtain ⟨ad60127, e60127, hx60127_0, hx60127_1, hx60127_2⟩ := at_T23 (Kd.R_reads' HO_12.out).2.2 (ji37) p60127 q60127
                                  cases e60127
                                  replace p60127 := eq_true p60127
                                  replace q60127 := eq_true q60127
                                  refine start_ (n := 13) (S := fun w' => w'.cell? (ad60126.add ((x16_3).toNat * 3)) = some (.int .i64 ((rd_T23 t60123 x16_3).f0)) ∧ w'.cell? ⟨(ad60126.add ((x16_3).toNat * 3)).block, (ad60126.add ((x16_3).toNat * 3)).off + 1, none⟩ = some (.int .i64 ((rd_T23 t60123 x16_3).f1)) ∧ w'.cell? ⟨(ad60126.add ((x16_3).toNat * 3)).block, (ad60126.add ((x16_3).toNat * 3)).off + 2, none⟩ = some (.int .i64 ((rd_T23 t60123 x16_3).f2)) ∧ w'.cell? (ad60127.add (((ji37)).toNat * 3)) = some (.int .i64 ((rd_T23 t60110 (ji37)).f0)) ∧ w'.cell? ⟨(ad60127.add (((ji37)).toNat * 3)).block, (ad60127.add (((ji37)).toNat * 3)).off + 1, none⟩ = some (.int .i64 ((rd_T23 t60110 (ji37)).f1)) ∧ w'.cell? ⟨(ad60127.add (((ji37)).toNat * 3)).block, (ad60127.add (((ji37)).toNat * 3)).off + 2, none⟩ = some (.int .i64 ((rd_T23 t60110 (ji37)).f2))) (ds := []) #[false, false, false, false, false, false, false, false, false, false, false, false, false] (by kernel_rfl) rfl rfl ⟨hx60126_0, hx60126_1, hx60126_2, hx60127_0, hx60127_1, hx60127_2⟩ (fun hHeld => ?_); refine with_tabW larderlaw03_CalWalk.tab24 larderlaw03_CalWalk.bits24 (fun HT_ HW_ => ?_)
                                  generalize wr.drew = w42 at HO_12 HO_15 HB hx60126_0 hx60126_1 hx60126_2 hx60127_0 hx60127_1 hx60127_2 hHeld ⊢
                                  refine pure_ (i := 0) (N := some 93) (v := ?_) (a' := ?_) #[true, false, false, false, false, false, false, false, false, false, false, false, false] rfl rfl (any_of HT_.out (by kernel_rfl)) (fun _ _ _ h => h) (Or.inl ⟨by rfl, ?_⟩) ?_ ?_
                                  rotate_left
                                  · intro w'
                                    go_simp
                                    with_reducible rfl
                                  rotate_left
                                  · simp only [Act.put, List.setIfInBounds_toArray, List.set_cons_zero, List.set_cons_succ, i64_w, i32_w]
                                    rfl
                                  refine pure_ (i := 1) (N := some 94) (v := ?_) (a' := ?_) #[true, true, false, false, false, false, false, false, false, false, false, false, false] rfl rfl (any_of HT_.out (by kernel_rfl)) (fun _ _ _ h => h) (Or.inl ⟨by rfl, ?_⟩) ?_ ?_
                                  rotate_left
                                  · intro w'
                                    go_simp
                                    with_reducible rfl
                                  rotate_left
                                  · simp only [Act.put, List.setIfInBounds_toArray, List.set_cons_zero, List.set_cons_succ, i64_w, i32_w]
                                    rfl
                                  refine pure_ (i := 2) (N := some 95) (v := ?_) (a' := ?_) #[true, true, true, false, false, false, false, false, false, false, false, false, false] rfl rfl (any_of HT_.out (by kernel_rfl)) (fun _ _ _ h => h) (Or.inl ⟨by rfl, ?_⟩) ?_ ?_
                                  rotate_left
                                  · intro w'
                                    go_simp
                                    with_reducible rfl
                                  rotate_left
                                  · simp only [Act.put, List.setIfInBounds_toArray, List.set_cons_zero, List.set_cons_succ, i64_w, i32_w]
                                    rfl
                                  refine pure_ (i := 4) (N := some 97) (v := ?_) (a' := ?_) #[true, true, true, false, true, false, false, false, false, false, false, false, false] rfl rfl (any_of HT_.out (by kernel_rfl)) (fun _ _ _ h => h) (Or.inl ⟨by rfl, ?_⟩) ?_ ?_
                                  rotate_left
                                  · intro w'
                                    go_simp
                                    with_reducible rfl
                                  rotate_left
                                  · simp only [Act.put, List.setIfInBounds_toArray, List.set_cons_zero, List.set_cons_succ, i64_w, i32_w]
                                    rfl
                                  refine pure_ (i := 5) (N := some 98) (v := ?_) (a' := ?_) #[true, true, true, false, true, true, false, false, false, false, false, false, false] rfl rfl (any_of HT_.out (by kernel_rfl)) (fun _ _ _ h => h) (Or.inl ⟨by rfl, ?_⟩) ?_ ?_
                                  rotate_left
                                  · intro w'
                                    go_simp
                                    with_reducible rfl
                                  rotate_left
                                  · simp only [Act.put, List.setIfInBounds_toArray, List.set_cons_zero, List.set_cons_succ, i64_w, i32_w]
                                    rfl
                                  refine pure_ (i := 6) (N := some 99) (v := ?_) (a' := ?_) #[true, true, true, false, true, true, true, false, false, false, false, false, false] rfl rfl (any_of HT_.out (by kernel_rfl)) (fun _ _ _ h => h) (Or.inl ⟨by rfl, ?_⟩) ?_ ?_
                                  rotate_left
                                  · intro w'
                                    go_simp
                                    with_reducible rfl
                                  rotate_left
                                  · simp only [Act.put, List.setIfInBounds_toArray, List.set_cons_zero, List.set_cons_succ, i64_w, i32_w]
                                    rfl
                                  refine pure_ (i := 7) (N := some 100) (v := ?_) (a' := ?_) #[true, true, true, false, true, true, true, true, false, false, false, false, false] rfl rfl (any_of HT_.out (by kernel_rfl)) (fun _ _ _ h => h) (Or.inl ⟨by rfl, ?_⟩) ?_ ?_
                                  rotate_left
                                  · intro w'
                                    go_simp
                                    with_reducible rfl
                                  rotate_left
                                  · simp only [Act.put, List.setIfInBounds_toArray, List.set_cons_zero, List.set_cons_succ, i64_w, i32_w]
                                    rfl
                                  refine pure_ (i := 8) (N := some 101) (v := ?_) (a' := ?_) #[true, true, true, false, true, true, true, true, true, false, false, false, false] rfl rfl (any_of HT_.out (by kernel_rfl)) (fun _ _ _ h => h) (Or.inl ⟨by rfl, ?_⟩) ?_ ?_
                                  rotate_left
                                  · intro w'
                                    go_simp
                                    with_reducible rfl
                                  rotate_left
                                  · simp only [Act.put, List.setIfInBounds_toArray, List.set_cons_zero, List.set_cons_succ, i64_w, i32_w]
                                    rfl
                                  refine pure_ (i := 9) (N := some 102) (v := ?_) (a' := ?_) #[true, true, true, false, true, true, true, true, true, true, false, false, false] rfl rfl (any_of HT_.out (by kernel_rfl)) (fun _ _ _ h => h) (Or.inl ⟨by rfl, ?_⟩) ?_ ?_
                                  rotate_left
                                  · intro w'
                                    go_simp
                                    with_reducible rfl
                                  rotate_left
                                  · simp only [Act.put, List.setIfInBounds_toArray, List.set_cons_zero, List.set_cons_succ, i64_w, i32_w]
                                    rfl
                                  refine pure_ (i := 10) (N := some 103) (v := ?_) (a' := ?_) #[true, true, true, false, true, true, true, true, true, true, true, false, false] rfl rfl (any_of HT_.out (by kernel_rfl)) (fun _ _ _ h => h) (Or.inl ⟨by rfl, ?_⟩) ?_ ?_
                                  rotate_left
                                  · intro w'
                                    go_simp
                                    with_reducible rfl
                                  rotate_left
                                  · simp only [Act.put, List.setIfInBounds_toArray, List.set_cons_zero, List.set_cons_succ, i64_w, i32_w]
                                    rfl
                                  refine take_ (i := 3) (N := some 96) (v := ?_) (a' := ?_) #[true, true, true, true, true, true, true, true, true, true, true, false, false] rfl rfl (take_ofW HT_.out HW_.out (by kernel_rfl)) (fun _ _ _ h => h) (Or.inl ⟨by rfl, ?_⟩) hHeld ?_ ?_
                                  rotate_left
                                  · rintro w' ⟨s0, s1, s2, s3, s4, s5⟩
                                    go_simp
                                    with_reducible rfl
                                  rotate_left
                                  · simp only [Act.put, List.setIfInBounds_toArray, List.set_cons_zero, List.set_cons_succ, i64_w, i32_w]
                                    rfl
                                  refine take_ (i := 11) (N := some 104) (v := ?_) (a' := ?_) #[true, true, true, true, true, true, true, true, true, true, true, true, false] rfl rfl (take_ofW HT_.out HW_.out (by kernel_rfl)) (fun _ _ _ h => h) (Or.inl ⟨by rfl, ?_⟩) hHeld ?_ ?_
                                  rotate_left
                                  · rintro w' ⟨s0, s1, s2, s3, s4, s5⟩
                                    go_simp
                                    with_reducible rfl
                                  rotate_left
                                  · simp only [Act.put, List.setIfInBounds_toArray, List.set_cons_zero, List.set_cons_succ, i64_w, i32_w]
                                    rfl
                                  refine pure_ (i := 12) (N := some 105) (v := ?_) (a' := ?_) #[true, true, true, true, true, true, true, true, true, true, true, true, true] rfl rfl (any_of HT_.out (by kernel_rfl)) (fun _ _ _ h => h) (Or.inl ⟨by rfl, ?_⟩) ?_ ?_
                                  rotate_left
                                  · intro w'
                                    go_simp
                                    with_reducible rfl
                                  rotate_left
                                  · simp only [Act.put, List.setIfInBounds_toArray, List.set_cons_zero, List.set_cons_succ, i64_w, i32_w]
                                    rfl
                                  refine done_ (done_of HT_.out (by kernel_rfl)) ?_
                                  try go_wp2
                                  go_roundg k3
                                  case measure => have := HJ5.out; have := HK2.out; have := HK3.out; omega
                                  case rel => exact ⟨(wrap64 (x16_3 + 1)), (by first | rfl | (simp; done) | (simp [*]; done)), H', ⟨by have := HJ5.out; have := HK2.out; have := HK3.out; omega⟩, ⟨by (with_reducible repeat (first | apply Kd.R_alloc | apply Kd.R_drewN | apply Kd.R_drew)); exact HO_12.out⟩, ⟨by (with_reducible repeat (first | apply Kd.R_alloc | apply Kd.R_drewN | apply Kd.R_drew)); exact HO_15.out⟩, ⟨by repeat (first | (with_reducible first | exact HB.out | apply below_alloc | apply pw_below_drewN | apply below_drew1) | exact HB.out)⟩⟩
                              · rw [if_neg c39] at H
                                exact absurd H (by simp)
                            · rw [if_neg c38] at H
                              exact absurd H (by simp)
                          · rw [if_neg c36] at H
                            exact absurd H (by simp)
                        · rw [if_neg c35] at H
                          exact absurd H (by simp)
                      · rw [if_neg c34] at H
                        have c34b0 : decide (x16_3 < (t60110.length : Int)) = false := decide_eq_false c34
                        clear c34
                        replace H := Option.bind_eq_some_iff.mp H
                        obtain ⟨⟨t60128, t60129, t60130⟩, A430, H⟩ := H
                        replace H : ((larderlaw03_at.f k3 x9_5).bind fun bt60131 => ((larderlaw03_walked.f t60128 t60129 t60130 bt60131.1 bt60131.2.1 bt60131.2.2 (wrap64 (t60103 + (wrap64 (Int.tdiv (wrap64 (x10_5 - x9_5)) 20000)))) 5).bind fun t60134 => (if x9_5 = x10_5 then (if (t60134.length : Int) = 1 then (some true) else (some ((t60134.length : Int) == 0))) else (some ((t60134.length : Int) == 0))))) = some r := H
                        have A43 := Aside0.mk A430
                        clear A430
                        replace H := Option.bind_eq_some_iff.mp H
                        obtain ⟨⟨t60131, t60132, t60133⟩, A440, H⟩ := H
                        replace H : ((larderlaw03_walked.f t60128 t60129 t60130 t60131 t60132 t60133 (wrap64 (t60103 + (wrap64 (Int.tdiv (wrap64 (x10_5 - x9_5)) 20000)))) 5).bind fun t60134 => (if x9_5 = x10_5 then (if (t60134.length : Int) = 1 then (some true) else (some ((t60134.length : Int) == 0))) else (some ((t60134.length : Int) == 0)))) = some r := H
                        have A44 := Aside0.mk A440
                        clear A440
                        replace H := Option.bind_eq_some_iff.mp H
                        obtain ⟨t60134, A450, H⟩ := H
                        replace H : (if x9_5 = x10_5 then (if (t60134.length : Int) = 1 then (some true) else (some ((t60134.length : Int) == 0))) else (some ((t60134.length : Int) == 0))) = some r := H
                        have A45 := Aside0.mk A450
                        clear A450
                        by_cases c46 : x9_5 = x10_5
                        · rw [if_pos c46] at H
                          have c46b0 : (x9_5 == x10_5) = true := beq_iff_eq.mpr c46
                          have c46b1 : (x9_5 != x10_5) = false := bne_eq_false_iff_eq.mpr c46
                          clear c46
                          by_cases c47 : (t60134.length : Int) = 1
                          · rw [if_pos c47] at H
                            have c47b0 : ((t60134.length : Int) == 1) = true := beq_iff_eq.mpr c47
                            have c47b1 : ((t60134.length : Int) != 1) = false := bne_eq_false_iff_eq.mpr c47
                            clear c47
                            obtain rfl := Option.some.inj H
                            go_wp2_with (first | ((with_reducible refine gate_callee (f := 24) rfl ?_); refine goesL_ (some 107) rfl rfl Tryd.func24 (by kernel_rfl) rfl #[.int .i64 x10_5] rfl (by (try simp only [List.map_toArray, List.map_cons, List.map_nil]); first | done | rfl | (simp only [List.length_drop, List.length_take]; rfl)) ?_; (with_reducible refine (larderlaw03_at.calls k3 x10_5 t60128 t60129 t60130 _ ?side1 A43.out).mono ?_); (case side1 => refine GlobOk.below HG.out ?_; repeat (first | (with_reducible first | exact HB.out | apply below_alloc | apply pw_below_drewN | apply below_drew1) | exact HB.out)); rintro e w48 ⟨rfl, hb⟩; refine ⟨_, rfl, ?_⟩; have n0_ := Aside0.mk (Kd.R_below (by (with_reducible repeat (first | apply Kd.R_alloc | apply Kd.R_drewN | apply Kd.R_drew)); exact HO_12.out) hb); have n1_ := Aside0.mk (Kd.R_below (by (with_reducible repeat (first | apply Kd.R_alloc | apply Kd.R_drewN | apply Kd.R_drew)); exact HO_15.out) hb); have n2_ := Aside0.mk (below_step (by repeat (first | (with_reducible first | exact HB.out | apply below_alloc | apply pw_below_drewN | apply below_drew1) | exact HB.out)) hb); clear HO_12; clear HO_15; clear HB; have HO_12 := n0_; have HO_15 := n1_; have HB := n2_; clear n0_ n1_ n2_; (try clear hb); (try clear hb2); (try clear hk); (try clear hi)) | ((with_reducible refine gate_callee (f := 24) rfl ?_); refine goesL_ (some 109) rfl rfl Tryd.func24 (by kernel_rfl) rfl #[.int .i64 x9_5] rfl (by (try simp only [List.map_toArray, List.map_cons, List.map_nil]); first | done | rfl | (simp only [List.length_drop, List.length_take]; rfl)) ?_; (with_reducible refine (larderlaw03_at.calls k3 x9_5 t60131 t60132 t60133 _ ?side1 A44.out).mono ?_); (case side1 => refine GlobOk.below HG.out ?_; repeat (first | (with_reducible first | exact HB.out | apply below_alloc | apply pw_below_drewN | apply below_drew1) | exact HB.out)); rintro e w49 ⟨rfl, hb⟩; refine ⟨_, rfl, ?_⟩; have n0_ := Aside0.mk (Kd.R_below (by (with_reducible repeat (first | apply Kd.R_alloc | apply Kd.R_drewN | apply Kd.R_drew)); exact HO_12.out) hb); have n1_ := Aside0.mk (Kd.R_below (by (with_reducible repeat (first | apply Kd.R_alloc | apply Kd.R_drewN | apply Kd.R_drew)); exact HO_15.out) hb); have n2_ := Aside0.mk (below_step (by repeat (first | (with_reducible first | exact HB.out | apply below_alloc | apply pw_below_drewN | apply below_drew1) | exact HB.out)) hb); clear HO_12; clear HO_15; clear HB; have HO_12 := n0_; have HO_15 := n1_; have HB := n2_; clear n0_ n1_ n2_; (try clear hb); (try clear hb2); (try clear hk); (try clear hi)) | ((with_reducible refine gate_callee (f := 20) rfl ?_); refine goesL_ (some 111) rfl rfl Tryd.func20 (by kernel_rfl) rfl #[.agg #[.int .i64 t60128, .int .i64 t60129, .int .i64 t60130], .agg #[.int .i64 t60131, .int .i64 t60132, .int .i64 t60133], .int .i64 (wrap64 (t60103 + (wrap64 (Int.tdiv (wrap64 (x10_5 - x9_5)) 20000)))), .int .i64 5] rfl (by (try simp only [List.map_toArray, List.map_cons, List.map_nil]); first | done | rfl | (simp only [List.length_drop, List.length_take]; rfl)) ?_; (with_reducible refine (larderlaw03_walked.calls t60128 t60129 t60130 t60131 t60132 t60133 (wrap64 (t60103 + (wrap64 (Int.tdiv (wrap64 (x10_5 - x9_5)) 20000)))) 5 t60134 _ ?side1 A45.out).mono ?_); (case side1 => refine GlobOk.below HG.out ?_; repeat (first | (with_reducible first | exact HB.out | apply below_alloc | apply pw_below_drewN | apply below_drew1) | exact HB.out)); rintro e w50 ⟨v60135, rfl, ho0, hb⟩; refine ⟨_, rfl, ?_⟩; have n0_ := Aside0.mk (Kd.R_elder' (by (with_reducible repeat (first | apply Kd.R_alloc | apply Kd.R_drewN | apply Kd.R_drew)); exact HO_12.out) (Kd.R_base ho0) hb); have n1_ := Aside0.mk (Kd.R_elder' (by (with_reducible repeat (first | apply Kd.R_alloc | apply Kd.R_drewN | apply Kd.R_drew)); exact HO_15.out) (Kd.R_base ho0) hb); have n2_ := Aside0.mk (Kd.R_lower (Kd.R_new' (Kd.R_new' ho0 (Kd.R_lt (by (with_reducible repeat (first | apply Kd.R_alloc | apply Kd.R_drewN | apply Kd.R_drew)); exact HO_12.out))) (Kd.R_lt (by (with_reducible repeat (first | apply Kd.R_alloc | apply Kd.R_drewN | apply Kd.R_drew)); exact HO_15.out))) (below_size (by repeat (first | (with_reducible first | exact HB.out | apply below_alloc | apply pw_below_drewN | apply below_drew1) | exact HB.out)))); have n3_ := Aside0.mk (below_step (by repeat (first | (with_reducible first | exact HB.out | apply below_alloc | apply pw_below_drewN | apply below_drew1) | exact HB.out)) hb); clear HO_12; clear HO_15; clear HB; have HO_12 := n0_; have HO_15 := n1_; have HO60136 := n2_; have HB := n3_; clear n0_ n1_ n2_ n3_; (try clear hb); (try clear hb2); (try clear hk); (try clear hi); (try clear ho0); obtain ⟨Ao51, co51, eo51⟩ := Kd.R_slice HO60136.out; subst eo51))
                            go_ret
                            exact ⟨by first | rfl | (simp [errW_none, errW_some] <;> rfl) | (simp [*, errW_none, errW_some] <;> rfl), by repeat (first | (with_reducible first | exact HB.out | apply below_alloc | apply pw_below_drewN | apply below_drew1) | exact HB.out)⟩
                          · rw [if_neg c47] at H
                            have c47b0 : ((t60134.length : Int) == 1) = false := beq_eq_false_iff_ne.mpr c47
                            have c47b1 : ((t60134.length : Int) != 1) = true := bne_iff_ne.mpr c47
                            obtain rfl := Option.some.inj H
                            go_wp2_with (first | ((with_reducible refine gate_callee (f := 24) rfl ?_); refine goesL_ (some 107) rfl rfl Tryd.func24 (by kernel_rfl) rfl #[.int .i64 x10_5] rfl (by (try simp only [List.map_toArray, List.map_cons, List.map_nil]); first | done | rfl | (simp only [List.length_drop, List.length_take]; rfl)) ?_; (with_reducible refine (larderlaw03_at.calls k3 x10_5 t60128 t60129 t60130 _ ?side1 A43.out).mono ?_); (case side1 => refine GlobOk.below HG.out ?_; repeat (first | (with_reducible first | exact HB.out | apply below_alloc | apply pw_below_drewN | apply below_drew1) | exact HB.out)); rintro e w52 ⟨rfl, hb⟩; refine ⟨_, rfl, ?_⟩; have n0_ := Aside0.mk (Kd.R_below (by (with_reducible repeat (first | apply Kd.R_alloc | apply Kd.R_drewN | apply Kd.R_drew)); exact HO_12.out) hb); have n1_ := Aside0.mk (Kd.R_below (by (with_reducible repeat (first | apply Kd.R_alloc | apply Kd.R_drewN | apply Kd.R_drew)); exact HO_15.out) hb); have n2_ := Aside0.mk (below_step (by repeat (first | (with_reducible first | exact HB.out | apply below_alloc | apply pw_below_drewN | apply below_drew1) | exact HB.out)) hb); clear HO_12; clear HO_15; clear HB; have HO_12 := n0_; have HO_15 := n1_; have HB := n2_; clear n0_ n1_ n2_; (try clear hb); (try clear hb2); (try clear hk); (try clear hi)) | ((with_reducible refine gate_callee (f := 24) rfl ?_); refine goesL_ (some 109) rfl rfl Tryd.func24 (by kernel_rfl) rfl #[.int .i64 x9_5] rfl (by (try simp only [List.map_toArray, List.map_cons, List.map_nil]); first | done | rfl | (simp only [List.length_drop, List.length_take]; rfl)) ?_; (with_reducible refine (larderlaw03_at.calls k3 x9_5 t60131 t60132 t60133 _ ?side1 A44.out).mono ?_); (case side1 => refine GlobOk.below HG.out ?_; repeat (first | (with_reducible first | exact HB.out | apply below_alloc | apply pw_below_drewN | apply below_drew1) | exact HB.out)); rintro e w53 ⟨rfl, hb⟩; refine ⟨_, rfl, ?_⟩; have n0_ := Aside0.mk (Kd.R_below (by (with_reducible repeat (first | apply Kd.R_alloc | apply Kd.R_drewN | apply Kd.R_drew)); exact HO_12.out) hb); have n1_ := Aside0.mk (Kd.R_below (by (with_reducible repeat (first | apply Kd.R_alloc | apply Kd.R_drewN | apply Kd.R_drew)); exact HO_15.out) hb); have n2_ := Aside0.mk (below_step (by repeat (first | (with_reducible first | exact HB.out | apply below_alloc | apply pw_below_drewN | apply below_drew1) | exact HB.out)) hb); clear HO_12; clear HO_15; clear HB; have HO_12 := n0_; have HO_15 := n1_; have HB := n2_; clear n0_ n1_ n2_; (try clear hb); (try clear hb2); (try clear hk); (try clear hi)) | ((with_reducible refine gate_callee (f := 20) rfl ?_); refine goesL_ (some 111) rfl rfl Tryd.func20 (by kernel_rfl) rfl #[.agg #[.int .i64 t60128, .int .i64 t60129, .int .i64 t60130], .agg #[.int .i64 t60131, .int .i64 t60132, .int .i64 t60133], .int .i64 (wrap64 (t60103 + (wrap64 (Int.tdiv (wrap64 (x10_5 - x9_5)) 20000)))), .int .i64 5] rfl (by (try simp only [List.map_toArray, List.map_cons, List.map_nil]); first | done | rfl | (simp only [List.length_drop, List.length_take]; rfl)) ?_; (with_reducible refine (larderlaw03_walked.calls t60128 t60129 t60130 t60131 t60132 t60133 (wrap64 (t60103 + (wrap64 (Int.tdiv (wrap64 (x10_5 - x9_5)) 20000)))) 5 t60134 _ ?side1 A45.out).mono ?_); (case side1 => refine GlobOk.below HG.out ?_; repeat (first | (with_reducible first | exact HB.out | apply below_alloc | apply pw_below_drewN | apply below_drew1) | exact HB.out)); rintro e w54 ⟨v60135, rfl, ho0, hb⟩; refine ⟨_, rfl, ?_⟩; have n0_ := Aside0.mk (Kd.R_elder' (by (with_reducible repeat (first | apply Kd.R_alloc | apply Kd.R_drewN | apply Kd.R_drew)); exact HO_12.out) (Kd.R_base ho0) hb); have n1_ := Aside0.mk (Kd.R_elder' (by (with_reducible repeat (first | apply Kd.R_alloc | apply Kd.R_drewN | apply Kd.R_drew)); exact HO_15.out) (Kd.R_base ho0) hb); have n2_ := Aside0.mk (Kd.R_lower (Kd.R_new' (Kd.R_new' ho0 (Kd.R_lt (by (with_reducible repeat (first | apply Kd.R_alloc | apply Kd.R_drewN | apply Kd.R_drew)); exact HO_12.out))) (Kd.R_lt (by (with_reducible repeat (first | apply Kd.R_alloc | apply Kd.R_drewN | apply Kd.R_drew)); exact HO_15.out))) (below_size (by repeat (first | (with_reducible first | exact HB.out | apply below_alloc | apply pw_below_drewN | apply below_drew1) | exact HB.out)))); have n3_ := Aside0.mk (below_step (by repeat (first | (with_reducible first | exact HB.out | apply below_alloc | apply pw_below_drewN | apply below_drew1) | exact HB.out)) hb); clear HO_12; clear HO_15; clear HB; have HO_12 := n0_; have HO_15 := n1_; have HO60136 := n2_; have HB := n3_; clear n0_ n1_ n2_ n3_; (try clear hb); (try clear hb2); (try clear hk); (try clear hi); (try clear ho0); obtain ⟨Ao55, co55, eo55⟩ := Kd.R_slice HO60136.out; subst eo55))
                            go_ret
                            exact ⟨by first | rfl | (simp [errW_none, errW_some] <;> rfl) | (simp [*, errW_none, errW_some] <;> rfl), by repeat (first | (with_reducible first | exact HB.out | apply below_alloc | apply pw_below_drewN | apply below_drew1) | exact HB.out)⟩
                        · rw [if_neg c46] at H
                          have c46b0 : (x9_5 == x10_5) = false := beq_eq_false_iff_ne.mpr c46
                          have c46b1 : (x9_5 != x10_5) = true := bne_iff_ne.mpr c46
                          obtain rfl := Option.some.inj H
                          go_wp2_with (first | ((with_reducible refine gate_callee (f := 24) rfl ?_); refine goesL_ (some 107) rfl rfl Tryd.func24 (by kernel_rfl) rfl #[.int .i64 x10_5] rfl (by (try simp only [List.map_toArray, List.map_cons, List.map_nil]); first | done | rfl | (simp only [List.length_drop, List.length_take]; rfl)) ?_; (with_reducible refine (larderlaw03_at.calls k3 x10_5 t60128 t60129 t60130 _ ?side1 A43.out).mono ?_); (case side1 => refine GlobOk.below HG.out ?_; repeat (first | (with_reducible first | exact HB.out | apply below_alloc | apply pw_below_drewN | apply below_drew1) | exact HB.out)); rintro e w56 ⟨rfl, hb⟩; refine ⟨_, rfl, ?_⟩; have n0_ := Aside0.mk (Kd.R_below (by (with_reducible repeat (first | apply Kd.R_alloc | apply Kd.R_drewN | apply Kd.R_drew)); exact HO_12.out) hb); have n1_ := Aside0.mk (Kd.R_below (by (with_reducible repeat (first | apply Kd.R_alloc | apply Kd.R_drewN | apply Kd.R_drew)); exact HO_15.out) hb); have n2_ := Aside0.mk (below_step (by repeat (first | (with_reducible first | exact HB.out | apply below_alloc | apply pw_below_drewN | apply below_drew1) | exact HB.out)) hb); clear HO_12; clear HO_15; clear HB; have HO_12 := n0_; have HO_15 := n1_; have HB := n2_; clear n0_ n1_ n2_; (try clear hb); (try clear hb2); (try clear hk); (try clear hi)) | ((with_reducible refine gate_callee (f := 24) rfl ?_); refine goesL_ (some 109) rfl rfl Tryd.func24 (by kernel_rfl) rfl #[.int .i64 x9_5] rfl (by (try simp only [List.map_toArray, List.map_cons, List.map_nil]); first | done | rfl | (simp only [List.length_drop, List.length_take]; rfl)) ?_; (with_reducible refine (larderlaw03_at.calls k3 x9_5 t60131 t60132 t60133 _ ?side1 A44.out).mono ?_); (case side1 => refine GlobOk.below HG.out ?_; repeat (first | (with_reducible first | exact HB.out | apply below_alloc | apply pw_below_drewN | apply below_drew1) | exact HB.out)); rintro e w57 ⟨rfl, hb⟩; refine ⟨_, rfl, ?_⟩; have n0_ := Aside0.mk (Kd.R_below (by (with_reducible repeat (first | apply Kd.R_alloc | apply Kd.R_drewN | apply Kd.R_drew)); exact HO_12.out) hb); have n1_ := Aside0.mk (Kd.R_below (by (with_reducible repeat (first | apply Kd.R_alloc | apply Kd.R_drewN | apply Kd.R_drew)); exact HO_15.out) hb); have n2_ := Aside0.mk (below_step (by repeat (first | (with_reducible first | exact HB.out | apply below_alloc | apply pw_below_drewN | apply below_drew1) | exact HB.out)) hb); clear HO_12; clear HO_15; clear HB; have HO_12 := n0_; have HO_15 := n1_; have HB := n2_; clear n0_ n1_ n2_; (try clear hb); (try clear hb2); (try clear hk); (try clear hi)) | ((with_reducible refine gate_callee (f := 20) rfl ?_); refine goesL_ (some 111) rfl rfl Tryd.func20 (by kernel_rfl) rfl #[.agg #[.int .i64 t60128, .int .i64 t60129, .int .i64 t60130], .agg #[.int .i64 t60131, .int .i64 t60132, .int .i64 t60133], .int .i64 (wrap64 (t60103 + (wrap64 (Int.tdiv (wrap64 (x10_5 - x9_5)) 20000)))), .int .i64 5] rfl (by (try simp only [List.map_toArray, List.map_cons, List.map_nil]); first | done | rfl | (simp only [List.length_drop, List.length_take]; rfl)) ?_; (with_reducible refine (larderlaw03_walked.calls t60128 t60129 t60130 t60131 t60132 t60133 (wrap64 (t60103 + (wrap64 (Int.tdiv (wrap64 (x10_5 - x9_5)) 20000)))) 5 t60134 _ ?side1 A45.out).mono ?_); (case side1 => refine GlobOk.below HG.out ?_; repeat (first | (with_reducible first | exact HB.out | apply below_alloc | apply pw_below_drewN | apply below_drew1) | exact HB.out)); rintro e w58 ⟨v60135, rfl, ho0, hb⟩; refine ⟨_, rfl, ?_⟩; have n0_ := Aside0.mk (Kd.R_elder' (by (with_reducible repeat (first | apply Kd.R_alloc | apply Kd.R_drewN | apply Kd.R_drew)); exact HO_12.out) (Kd.R_base ho0) hb); have n1_ := Aside0.mk (Kd.R_elder' (by (with_reducible repeat (first | apply Kd.R_alloc | apply Kd.R_drewN | apply Kd.R_drew)); exact HO_15.out) (Kd.R_base ho0) hb); have n2_ := Aside0.mk (Kd.R_lower (Kd.R_new' (Kd.R_new' ho0 (Kd.R_lt (by (with_reducible repeat (first | apply Kd.R_alloc | apply Kd.R_drewN | apply Kd.R_drew)); exact HO_12.out))) (Kd.R_lt (by (with_reducible repeat (first | apply Kd.R_alloc | apply Kd.R_drewN | apply Kd.R_drew)); exact HO_15.out))) (below_size (by repeat (first | (with_reducible first | exact HB.out | apply below_alloc | apply pw_below_drewN | apply below_drew1) | exact HB.out)))); have n3_ := Aside0.mk (below_step (by repeat (first | (with_reducible first | exact HB.out | apply below_alloc | apply pw_below_drewN | apply below_drew1) | exact HB.out)) hb); clear HO_12; clear HO_15; clear HB; have HO_12 := n0_; have HO_15 := n1_; have HO60136 := n2_; have HB := n3_; clear n0_ n1_ n2_ n3_; (try clear hb); (try clear hb2); (try clear hk); (try clear hi); (try clear ho0); obtain ⟨Ao59, co59, eo59⟩ := Kd.R_slice HO60136.out; subst eo59))
                          go_ret
                          exact ⟨by first | rfl | (simp [errW_none, errW_some] <;> rfl) | (simp [*, errW_none, errW_some] <;> rfl), by repeat (first | (with_reducible first | exact HB.out | apply below_alloc | apply pw_below_drewN | apply below_drew1) | exact HB.out)⟩
                · rw [if_neg c29] at H
                  have c29b0 : ((t60123.length : Int) == (t60110.length : Int)) = false := beq_eq_false_iff_ne.mpr c29
                  have c29b1 : ((t60123.length : Int) != (t60110.length : Int)) = true := bne_iff_ne.mpr c29
                  have c29b2 : (t60123.length == t60110.length) = false := by first | simpa using c29 | (simp at c29 ⊢; omega)
                  obtain rfl := Option.some.inj H
                  go_wp2_with (first | ((with_reducible refine gate_callee (f := 24) rfl ?_); refine goesL_ (some 76) rfl rfl Tryd.func24 (by kernel_rfl) rfl #[.int .i64 (wrap64 (x9_5 + (wrap64 ((wrap64 ((t60110.length : Int) - 1)) * (wrap64 (t60103 + (wrap64 (Int.tdiv (wrap64 (x10_5 - x9_5)) 20000))))))))] rfl (by (try simp only [List.map_toArray, List.map_cons, List.map_nil]); first | done | rfl | (simp only [List.length_drop, List.length_take]; rfl)) ?_; (with_reducible refine (larderlaw03_at.calls k2 (wrap64 (x9_5 + (wrap64 ((wrap64 ((t60110.length : Int) - 1)) * (wrap64 (t60103 + (wrap64 (Int.tdiv (wrap64 (x10_5 - x9_5)) 20000)))))))) t60117 t60118 t60119 _ ?side1 A26.out).mono ?_); (case side1 => refine GlobOk.below HG.out ?_; repeat (first | (with_reducible first | exact HB.out | apply below_alloc | apply pw_below_drewN | apply below_drew1) | exact HB.out)); rintro e w60 ⟨rfl, hb⟩; refine ⟨_, rfl, ?_⟩; have n0_ := Aside0.mk (Kd.R_below (by (with_reducible repeat (first | apply Kd.R_alloc | apply Kd.R_drewN | apply Kd.R_drew)); exact HO_12.out) hb); have n1_ := Aside0.mk (below_step (by repeat (first | (with_reducible first | exact HB.out | apply below_alloc | apply pw_below_drewN | apply below_drew1) | exact HB.out)) hb); clear HO_12; clear HB; have HO_12 := n0_; have HB := n1_; clear n0_ n1_; (try clear hb); (try clear hb2); (try clear hk); (try clear hi)) | ((with_reducible refine gate_callee (f := 24) rfl ?_); refine goesL_ (some 78) rfl rfl Tryd.func24 (by kernel_rfl) rfl #[.int .i64 x9_5] rfl (by (try simp only [List.map_toArray, List.map_cons, List.map_nil]); first | done | rfl | (simp only [List.length_drop, List.length_take]; rfl)) ?_; (with_reducible refine (larderlaw03_at.calls k2 x9_5 t60120 t60121 t60122 _ ?side1 A27.out).mono ?_); (case side1 => refine GlobOk.below HG.out ?_; repeat (first | (with_reducible first | exact HB.out | apply below_alloc | apply pw_below_drewN | apply below_drew1) | exact HB.out)); rintro e w61 ⟨rfl, hb⟩; refine ⟨_, rfl, ?_⟩; have n0_ := Aside0.mk (Kd.R_below (by (with_reducible repeat (first | apply Kd.R_alloc | apply Kd.R_drewN | apply Kd.R_drew)); exact HO_12.out) hb); have n1_ := Aside0.mk (below_step (by repeat (first | (with_reducible first | exact HB.out | apply below_alloc | apply pw_below_drewN | apply below_drew1) | exact HB.out)) hb); clear HO_12; clear HB; have HO_12 := n0_; have HB := n1_; clear n0_ n1_; (try clear hb); (try clear hb2); (try clear hk); (try clear hi)) | ((with_reducible refine gate_callee (f := 20) rfl ?_); refine goesL_ (some 81) rfl rfl Tryd.func20 (by kernel_rfl) rfl #[.agg #[.int .i64 t60117, .int .i64 t60118, .int .i64 t60119], .agg #[.int .i64 t60120, .int .i64 t60121, .int .i64 t60122], .int .i64 (wrap64 (-(wrap64 (t60103 + (wrap64 (Int.tdiv (wrap64 (x10_5 - x9_5)) 20000)))))), .int .i64 1073741824] rfl (by (try simp only [List.map_toArray, List.map_cons, List.map_nil]); first | done | rfl | (simp only [List.length_drop, List.length_take]; rfl)) ?_; (with_reducible refine (larderlaw03_walked.calls t60117 t60118 t60119 t60120 t60121 t60122 (wrap64 (-(wrap64 (t60103 + (wrap64 (Int.tdiv (wrap64 (x10_5 - x9_5)) 20000)))))) 1073741824 t60123 _ ?side1 A28.out).mono ?_); (case side1 => refine GlobOk.below HG.out ?_; repeat (first | (with_reducible first | exact HB.out | apply below_alloc | apply pw_below_drewN | apply below_drew1) | exact HB.out)); rintro e w62 ⟨v60124, rfl, ho0, hb⟩; refine ⟨_, rfl, ?_⟩; have n0_ := Aside0.mk (Kd.R_elder' (by (with_reducible repeat (first | apply Kd.R_alloc | apply Kd.R_drewN | apply Kd.R_drew)); exact HO_12.out) (Kd.R_base ho0) hb); have n1_ := Aside0.mk (Kd.R_lower (Kd.R_new' ho0 (Kd.R_lt (by (with_reducible repeat (first | apply Kd.R_alloc | apply Kd.R_drewN | apply Kd.R_drew)); exact HO_12.out))) (below_size (by repeat (first | (with_reducible first | exact HB.out | apply below_alloc | apply pw_below_drewN | apply below_drew1) | exact HB.out)))); have n2_ := Aside0.mk (below_step (by repeat (first | (with_reducible first | exact HB.out | apply below_alloc | apply pw_below_drewN | apply below_drew1) | exact HB.out)) hb); clear HO_12; clear HB; have HO_12 := n0_; have HO60125 := n1_; have HB := n2_; clear n0_ n1_ n2_; (try clear hb); (try clear hb2); (try clear hk); (try clear hi); (try clear ho0); obtain ⟨Ao63, co63, eo63⟩ := Kd.R_slice HO60125.out; subst eo63))
                  go_ret
                  exact ⟨by first | rfl | (simp [errW_none, errW_some] <;> rfl) | (simp [*, errW_none, errW_some] <;> rfl), by repeat (first | (with_reducible first | exact HB.out | apply below_alloc | apply pw_below_drewN | apply below_drew1) | exact HB.out)⟩
        · rw [if_neg c13] at H
          have c13b0 : ((t60110.length : Int) == (wrap64 ((wrap64 (Int.tdiv (wrap64 (x10_5 - x9_5)) (wrap64 (t60103 + (wrap64 (Int.tdiv (wrap64 (x10_5 - x9_5)) 20000)))))) + 1))) = false := beq_eq_false_iff_ne.mpr c13
          have c13b1 : ((t60110.length : Int) != (wrap64 ((wrap64 (Int.tdiv (wrap64 (x10_5 - x9_5)) (wrap64 (t60103 + (wrap64 (Int.tdiv (wrap64 (x10_5 - x9_5)) 20000)))))) + 1))) = true := bne_iff_ne.mpr c13
          obtain rfl := Option.some.inj H
          go_wp2_with (first | ((with_reducible refine gate_callee (f := 19) rfl ?_); refine goesL_ (some 30) rfl rfl Tryd.func19 (by kernel_rfl) rfl #[.int .i64 a2, .int .i64 1, .int .i64 4000] rfl (by (try simp only [List.map_toArray, List.map_cons, List.map_nil]); first | done | rfl | (simp only [List.length_drop, List.length_take]; rfl)) ?_; (with_reducible refine (larderlaw03_within.calls a2 1 4000 t60103 _ A8.out).mono ?_); rintro e w' ⟨rfl, ⟨nd, rfl⟩⟩; refine ⟨_, rfl, ?_⟩) | ((with_reducible refine gate_callee (f := 24) rfl ?_); refine goesL_ (some 37) rfl rfl Tryd.func24 (by kernel_rfl) rfl #[.int .i64 x9_5] rfl (by (try simp only [List.map_toArray, List.map_cons, List.map_nil]); first | done | rfl | (simp only [List.length_drop, List.length_take]; rfl)) ?_; (with_reducible refine (larderlaw03_at.calls kj5 x9_5 t60104 t60105 t60106 _ ?side1 A9.out).mono ?_); (case side1 => refine GlobOk.below HG.out ?_; repeat (first | (with_reducible first | exact HB.out | apply below_alloc | apply pw_below_drewN | apply below_drew1) | exact HB.out)); rintro e w64 ⟨rfl, hb⟩; refine ⟨_, rfl, ?_⟩; have n0_ := Aside0.mk (below_step (by repeat (first | (with_reducible first | exact HB.out | apply below_alloc | apply pw_below_drewN | apply below_drew1) | exact HB.out)) hb); clear HB; have HB := n0_; clear n0_; (try clear hb); (try clear hb2); (try clear hk); (try clear hi)) | ((with_reducible refine gate_callee (f := 24) rfl ?_); refine goesL_ (some 39) rfl rfl Tryd.func24 (by kernel_rfl) rfl #[.int .i64 x10_5] rfl (by (try simp only [List.map_toArray, List.map_cons, List.map_nil]); first | done | rfl | (simp only [List.length_drop, List.length_take]; rfl)) ?_; (with_reducible refine (larderlaw03_at.calls kj5 x10_5 t60107 t60108 t60109 _ ?side1 A10.out).mono ?_); (case side1 => refine GlobOk.below HG.out ?_; repeat (first | (with_reducible first | exact HB.out | apply below_alloc | apply pw_below_drewN | apply below_drew1) | exact HB.out)); rintro e w65 ⟨rfl, hb⟩; refine ⟨_, rfl, ?_⟩; have n0_ := Aside0.mk (below_step (by repeat (first | (with_reducible first | exact HB.out | apply below_alloc | apply pw_below_drewN | apply below_drew1) | exact HB.out)) hb); clear HB; have HB := n0_; clear n0_; (try clear hb); (try clear hb2); (try clear hk); (try clear hi)) | ((with_reducible refine gate_callee (f := 20) rfl ?_); refine goesL_ (some 41) rfl rfl Tryd.func20 (by kernel_rfl) rfl #[.agg #[.int .i64 t60104, .int .i64 t60105, .int .i64 t60106], .agg #[.int .i64 t60107, .int .i64 t60108, .int .i64 t60109], .int .i64 (wrap64 (t60103 + (wrap64 (Int.tdiv (wrap64 (x10_5 - x9_5)) 20000)))), .int .i64 1073741824] rfl (by (try simp only [List.map_toArray, List.map_cons, List.map_nil]); first | done | rfl | (simp only [List.length_drop, List.length_take]; rfl)) ?_; (with_reducible refine (larderlaw03_walked.calls t60104 t60105 t60106 t60107 t60108 t60109 (wrap64 (t60103 + (wrap64 (Int.tdiv (wrap64 (x10_5 - x9_5)) 20000)))) 1073741824 t60110 _ ?side1 A11.out).mono ?_); (case side1 => refine GlobOk.below HG.out ?_; repeat (first | (with_reducible first | exact HB.out | apply below_alloc | apply pw_below_drewN | apply below_drew1) | exact HB.out)); rintro e w66 ⟨v60111, rfl, ho0, hb⟩; refine ⟨_, rfl, ?_⟩; have n0_ := Aside0.mk (Kd.R_lower ho0 (below_size (by repeat (first | (with_reducible first | exact HB.out | apply below_alloc | apply pw_below_drewN | apply below_drew1) | exact HB.out)))); have n1_ := Aside0.mk (below_step (by repeat (first | (with_reducible first | exact HB.out | apply below_alloc | apply pw_below_drewN | apply below_drew1) | exact HB.out)) hb); clear HB; have HO60112 := n0_; have HB := n1_; clear n0_ n1_; (try clear hb); (try clear hb2); (try clear hk); (try clear hi); (try clear ho0); obtain ⟨Ao67, co67, eo67⟩ := Kd.R_slice HO60112.out; subst eo67))
          go_ret
          exact ⟨by first | rfl | (simp [errW_none, errW_some] <;> rfl) | (simp [*, errW_none, errW_some] <;> rfl), by repeat (first | (with_reducible first | exact HB.out | apply below_alloc | apply pw_below_drewN | apply below_drew1) | exact HB.out)⟩

end Go.Proofs.YtofafljfabgpmaaDoor.GC
