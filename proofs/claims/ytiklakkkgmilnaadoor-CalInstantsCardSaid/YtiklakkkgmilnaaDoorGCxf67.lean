-- written by a program (gp.py over the kit's print) for this claim
import Derived.Test.YtiklakkkgmilnaaDoorGCx0
import Derived.Test.YtiklakkkgmilnaaDoorGCr
namespace Go.Proofs.YtiklakkkgmilnaaDoor.GC
open Go.RowKit Go.Proofs.YtiklakkkgmilnaaDoorW.PrintWords Go.Proofs.YtiklakkkgmilnaaDoorW.PrintLast Go.Proofs.YtiklakkkgmilnaaDoor.Ext Go.Proofs.YtiklakkkgmilnaaDoor.PCal
attribute [local go_sem] max2_int min2_int max_two min_two   -- for this text alone
set_option linter.unusedVariables false
set_option linter.unusedSimpArgs false

/-! ### larderref03_clock: function 67 -/
mutual
def larderref03_clock.l0 : Nat → Int → List Int → List Int → Option (Int × Int × Bool)
  | 0, _, _, _ => none
  | k + 1, x1, x7, x8 => if (x7.length : Int) < 3 then (if x7.length < 17592186044416 then (if x8.length < 17592186044416 then (larderref03_clock.l0 k x1 (x7 ++ [0]) (x8 ++ [x1])) else (none)) else (none)) else (if 0 < (x7.length : Int) then (if (rd x7 0) > 24 then (larderref03_clock.j1 k x7 x8 true) else (if (rd x7 0) = 24 then (if 1 < (x7.length : Int) then (if 2 < (x7.length : Int) then (larderref03_clock.j1 k x7 x8 (decide ((wrap64 ((rd x7 1) + (rd x7 2))) > 0))) else (none)) else (none)) else (larderref03_clock.j1 k x7 x8 false))) else (none))
def larderref03_clock.j1 : Nat → List Int → List Int → Bool → Option (Int × Int × Bool)
  | 0, _, _, _ => none
  | k + 1, x7, x8, x44 => if x44 = true then (if 0 < (x8.length : Int) then (some (0, rd x8 0, false)) else (none)) else (if 1 < (x7.length : Int) then (if (rd x7 1) > 59 then (if 1 < (x8.length : Int) then (some (0, rd x8 1, false)) else (none)) else (if 2 < (x7.length : Int) then (if (rd x7 2) > 59 then (if 2 < (x8.length : Int) then (some (0, rd x8 2, false)) else (none)) else (if 0 < (x7.length : Int) then (some (wrap64 ((wrap64 ((wrap64 ((rd x7 0) * 3600)) + (wrap64 ((rd x7 1) * 60)))) + (rd x7 2)), 0, true)) else (none))) else (none))) else (none))
end
def larderref03_clock.f (k : Nat) (a0 : ByteArray) (a1 : Int) : Option (Int × Int × Bool) := (larderref03_parts.f k a0 a1).bind fun bt670101 => (larderref03_clock.l0 k a1 bt670101.1 bt670101.2)
theorem larderref03_clock.mono_l : ∀ k, (∀ y0 y1 y2, LeO (larderref03_clock.l0 k y0 y1 y2) (larderref03_clock.l0 (k + 1) y0 y1 y2)) ∧ (∀ y0 y1 y2, LeO (larderref03_clock.j1 k y0 y1 y2) (larderref03_clock.j1 (k + 1) y0 y1 y2))
  | 0 => ⟨fun _ _ _ r h => by simp [larderref03_clock.l0] at h, fun _ _ _ r h => by simp [larderref03_clock.j1] at h⟩
  | k + 1 => by
    obtain ⟨ih0, ih1⟩ := larderref03_clock.mono_l k
    refine ⟨?_, ?_⟩
    · intro y0 y1 y2
      unfold larderref03_clock.l0
      repeat' first
      | (with_reducible exact ih0 _ _ _)
      | (with_reducible exact ih1 _ _ _)
      | (with_reducible exact larderref03_parts.mono _ _ _)
      | (with_reducible exact LeO.refl _)
      | (with_reducible exact LeO.none _)
      | (with_reducible refine LeO.ite ?_ ?_)
      | (with_reducible refine LeO.bind ?_ (fun _ => ?_))
      | exact ih0 _ _ _
      | exact ih1 _ _ _
      | exact larderref03_parts.mono _ _ _
      | exact LeO.none _
      | refine LeO.ite ?_ ?_
      | refine LeO.bind ?_ (fun _ => ?_)
    · intro y0 y1 y2
      unfold larderref03_clock.j1
      repeat' first
      | (with_reducible exact ih0 _ _ _)
      | (with_reducible exact ih1 _ _ _)
      | (with_reducible exact larderref03_parts.mono _ _ _)
      | (with_reducible exact LeO.refl _)
      | (with_reducible exact LeO.none _)
      | (with_reducible refine LeO.ite ?_ ?_)
      | (with_reducible refine LeO.bind ?_ (fun _ => ?_))
      | exact ih0 _ _ _
      | exact ih1 _ _ _
      | exact larderref03_parts.mono _ _ _
      | exact LeO.none _
      | refine LeO.ite ?_ ?_
      | refine LeO.bind ?_ (fun _ => ?_)
theorem larderref03_clock.mono : ∀ a0 a1 k, LeO (larderref03_clock.f k a0 a1) (larderref03_clock.f (k + 1) a0 a1) := by
  intro a0 a1 k
  obtain ⟨ih0, ih1⟩ := larderref03_clock.mono_l k
  unfold larderref03_clock.f
  repeat' first
      | (with_reducible exact ih0 _ _ _)
      | (with_reducible exact ih1 _ _ _)
      | (with_reducible exact larderref03_parts.mono _ _ _)
      | (with_reducible exact LeO.refl _)
      | (with_reducible exact LeO.none _)
      | (with_reducible refine LeO.ite ?_ ?_)
      | (with_reducible refine LeO.bind ?_ (fun _ => ?_))
      | exact ih0 _ _ _
      | exact ih1 _ _ _
      | exact larderref03_parts.mono _ _ _
      | exact LeO.none _
      | refine LeO.ite ?_ ?_
      | refine LeO.bind ?_ (fun _ => ?_)
set_option maxHeartbeats 8000000 in
set_option maxRecDepth 100000 in
theorem larderref03_clock.calls (k : Nat) (a0 : ByteArray) (a1 : Int) (r1 : Int) (r2 : Int) (r3 : Bool) (w : World) (h : larderref03_clock.f k a0 a1 = some (r1, r2, r3)) :
    Calls Tryd.prog 67 #[.string a0, .int .i64 a1] w fun e w' => e = .returned (.tuple #[.int .i64 r1, .int .i64 r2, .bool r3]) ∧ Below w.heap.size w w' := by
  have HB := Aside0.mk (Below.refl w.heap.size w)
  have H : ((larderref03_parts.f k a0 a1).bind fun bt670101 => (larderref03_clock.l0 k a1 bt670101.1 bt670101.2)) = some (r1, r2, r3) := h
  clear h
  replace H := Option.bind_eq_some_iff.mp H
  obtain ⟨⟨t670101, t670102⟩, A30, H⟩ := H
  replace H : (larderref03_clock.l0 k a1 t670101 t670102) = some (r1, r2, r3) := H
  have A3 := Aside0.mk A30
  clear A30
  have H' := Aside0.mk H
  clear H
  go_enter Tryd.func67, Tryd.ntmps67
  go_wp2_with (first | (go_at_call 103; (with_reducible refine (larderref03_parts.calls k a0 a1 t670101 t670102 _ A3.out).mono ?_); rintro e w4 ⟨v670103, v670105, rfl, ho0, ho1, hb⟩; have n0_ := Aside0.mk (Kd.R_lower ho0 (below_size (by repeat (first | (with_reducible first | exact HB.out | apply below_alloc | apply pw_below_drewN | apply below_drew1) | exact HB.out)))); have n1_ := Aside0.mk (Kd.R_lower ho1 (below_size (by repeat (first | (with_reducible first | exact HB.out | apply below_alloc | apply pw_below_drewN | apply below_drew1) | exact HB.out)))); have n2_ := Aside0.mk (below_step (by repeat (first | (with_reducible first | exact HB.out | apply below_alloc | apply pw_below_drewN | apply below_drew1) | exact HB.out)) hb); clear HB; have HO670104 := n0_; have HO670106 := n1_; have HB := n2_; clear n0_ n1_ n2_; (try clear hb); (try clear hb2); (try clear hk); (try clear hi); (try clear ho0); (try clear ho1)))
  repeat (go_quiet (first | (go_at_call 103; (with_reducible refine (larderref03_parts.calls k a0 a1 t670101 t670102 _ A3.out).mono ?_); rintro e w4 ⟨v670103, v670105, rfl, ho0, ho1, hb⟩; have n0_ := Aside0.mk (Kd.R_lower ho0 (below_size (by repeat (first | (with_reducible first | exact HB.out | apply below_alloc | apply pw_below_drewN | apply below_drew1) | exact HB.out)))); have n1_ := Aside0.mk (Kd.R_lower ho1 (below_size (by repeat (first | (with_reducible first | exact HB.out | apply below_alloc | apply pw_below_drewN | apply below_drew1) | exact HB.out)))); have n2_ := Aside0.mk (below_step (by repeat (first | (with_reducible first | exact HB.out | apply below_alloc | apply pw_below_drewN | apply below_drew1) | exact HB.out)) hb); clear HB; have HO670104 := n0_; have HO670106 := n1_; have HB := n2_; clear n0_ n1_ n2_; (try clear hb); (try clear hb2); (try clear hk); (try clear hi); (try clear ho0); (try clear ho1))); try go_wp2_with (first | (go_at_call 103; (with_reducible refine (larderref03_parts.calls k a0 a1 t670101 t670102 _ A3.out).mono ?_); rintro e w4 ⟨v670103, v670105, rfl, ho0, ho1, hb⟩; have n0_ := Aside0.mk (Kd.R_lower ho0 (below_size (by repeat (first | (with_reducible first | exact HB.out | apply below_alloc | apply pw_below_drewN | apply below_drew1) | exact HB.out)))); have n1_ := Aside0.mk (Kd.R_lower ho1 (below_size (by repeat (first | (with_reducible first | exact HB.out | apply below_alloc | apply pw_below_drewN | apply below_drew1) | exact HB.out)))); have n2_ := Aside0.mk (below_step (by repeat (first | (with_reducible first | exact HB.out | apply below_alloc | apply pw_below_drewN | apply below_drew1) | exact HB.out)) hb); clear HB; have HO670104 := n0_; have HO670106 := n1_; have HB := n2_; clear n0_ n1_ n2_; (try clear hb); (try clear hb2); (try clear hk); (try clear hi); (try clear ho0); (try clear ho1))))
  go_loopg [7, 8] k (fun kq v7 v8 w' => ∃ (x7_1 : List Int) (x8_1 : List Int), Aside0 (larderref03_clock.l0 kq a1 x7_1 x8_1 = some (r1, r2, r3)) ∧ Aside0 (kq ≤ k) ∧ Aside0 (Kd.R (Kd.int .i64) 3 w' w.heap.size (fun k_ => some k_ ≠ (v8 : Value).ownBlock) v7 x7_1) ∧ Aside0 (Kd.R (Kd.int .i64) 3 w' w.heap.size (fun k_ => some k_ ≠ (v7 : Value).ownBlock) v8 x8_1) ∧ Aside0 (Below w.heap.size w w'))
  case atStart => exact ⟨(t670101), (t670102), H', ⟨Nat.le_refl _⟩, ⟨by (with_reducible repeat (first | apply Kd.R_alloc | apply Kd.R_drewN | apply Kd.R_drew)); exact HO670104.out⟩, ⟨by (with_reducible repeat (first | apply Kd.R_alloc | apply Kd.R_drewN | apply Kd.R_drew)); exact HO670106.out⟩, ⟨by repeat (first | (with_reducible first | exact HB.out | apply below_alloc | apply pw_below_drewN | apply below_drew1) | exact HB.out)⟩⟩
  case round =>
    clear H'
    try clear p2
    obtain ⟨x7_1, x8_1, HA, HK1, HO_7, HO_8, HB⟩ := hrel
    cases gk with
    | zero => exact absurd HA.out (by simp [larderref03_clock.l0])
    | succ k1 =>
      have H := HA.out
      clear HA
      simp only [larderref03_clock.l0] at H
      by_cases c5 : (x7_1.length : Int) < 3
      · rw [if_pos c5] at H
        have c5b0 : decide ((x7_1.length : Int) < 3) = true := decide_eq_true c5
        have c5b1 : decide (x7_1.length < 3) = true := decide_eq_true (by omega)
        clear c5
        by_cases c6 : x7_1.length < 17592186044416
        · rw [if_pos c6] at H
          have LMc6 := Aside0.mk c6
          clear c6
          obtain ⟨y670107, hy670107⟩ : ∃ y_ : List Int, y_ = (x7_1 ++ [0]) := ⟨_, rfl⟩
          replace H : (if x8_1.length < 17592186044416 then (larderref03_clock.l0 k1 a1 y670107 (x8_1 ++ [a1])) else (none)) = some (r1, r2, r3) := by first | (rw [hy670107]; with_reducible exact H) | (have H2_ := (Option.bind_some _ _).symm.trans H; rw [hy670107]; with_reducible exact H2_) | (have H2_ := (Option.bind_some _ _).symm.trans H; with_reducible exact H2_) | with_reducible exact H | (rw [hy670107]; exact H) | exact H
          have Ny670107 := Aside0.mk hy670107
          clear hy670107
          by_cases c7 : x8_1.length < 17592186044416
          · rw [if_pos c7] at H
            have LMc7 := Aside0.mk c7
            clear c7
            obtain ⟨y670110, hy670110⟩ : ∃ y_ : List Int, y_ = (x8_1 ++ [a1]) := ⟨_, rfl⟩
            replace H : (larderref03_clock.l0 k1 a1 y670107 y670110) = some (r1, r2, r3) := by first | (rw [hy670110]; with_reducible exact H) | (have H2_ := (Option.bind_some _ _).symm.trans H; rw [hy670110]; with_reducible exact H2_) | (have H2_ := (Option.bind_some _ _).symm.trans H; with_reducible exact H2_) | with_reducible exact H | (rw [hy670110]; exact H) | exact H
            have Ny670110 := Aside0.mk hy670110
            clear hy670110
            have H' := Aside0.mk H
            clear H
            obtain ⟨Ao8, co8, eo8⟩ := Kd.R_slice HO_7.out
            subst eo8
            go_wp2_with (first | ((with_reducible refine gate_builtin (b := .append) (xs := #[.tmp 18, .tmp 19]) rfl ?_); at_builtin; refine Kd.R_append (Kd.int .i64) (w0 := w) w.heap.size rfl (.tmp 18) (.tmp 19) 49 3 (.int .i64 0) 8 rfl Tryd.underlying49 info3 rfl (by decide) (by omega) (.slice Ao8 x7_1.length co8) x7_1 0 [.int .i64 0] (fun k_ => some k_ ≠ (u8 : Value).ownBlock) (fun _ => False) rfl rfl ?aP (fun _ hk => hk.elim) ?aF ?aO ?aB ?aS ?aL ?_; (case aP => exact rfl); (case aB => exact (by repeat (first | (with_reducible first | exact HB.out | apply below_alloc | apply pw_below_drewN | apply below_drew1) | exact HB.out))); (case aF => exact (fun k_ hk => Kd.fresh' (Kd.R_lt (by (with_reducible repeat (first | apply Kd.R_alloc | apply Kd.R_drewN | apply Kd.R_drew)); exact HO_8.out)) k_ hk)); (case aO => exact (by (with_reducible repeat (first | apply Kd.R_alloc | apply Kd.R_drewN | apply Kd.R_drew)); exact HO_7.out)); (case aS => exact (below_size (by repeat (first | (with_reducible first | exact HB.out | apply below_alloc | apply pw_below_drewN | apply below_drew1) | exact HB.out)))); (case aL => have := LMc6.out; omega); intro v670108 w9 ho hb hg hat; rw [← Ny670107.out] at ho; have n0_ := Aside0.mk (Kd.R_after (ok := (fun _ => True)) (by (with_reducible repeat (first | apply Kd.R_alloc | apply Kd.R_drewN | apply Kd.R_drew)); exact Kd.R_mono HO_8.out (fun _ hk => ⟨trivial, hk⟩)) hg hat); have n1_ := Aside0.mk (hb); have n2_ := Aside0.mk (ho); clear HO_8; clear HB; clear HO_7; have HO_8 := n0_; have HB := n1_; have HO670109 := n2_; clear n0_ n1_ n2_; clear ho hb hg hat) | ((with_reducible refine gate_builtin (b := .append) (xs := #[.tmp 21, .tmp 23]) rfl ?_); at_builtin; refine Kd.R_append (Kd.int .i64) (w0 := w) w.heap.size rfl (.tmp 21) (.tmp 23) 49 3 (.int .i64 0) 8 rfl Tryd.underlying49 info3 rfl (by decide) (by omega) u8 x8_1 a1 [.int .i64 a1] (fun k_ => some k_ ≠ (v670108 : Value).ownBlock) (fun _ => False) rfl rfl ?aP (fun _ hk => hk.elim) ?aF ?aO ?aB ?aS ?aL ?_; (case aP => exact rfl); (case aB => exact (by repeat (first | (with_reducible first | exact HB.out | apply below_alloc | apply pw_below_drewN | apply below_drew1) | exact HB.out))); (case aF => exact (fun k_ hk => Kd.fresh' (Kd.R_lt (by (with_reducible repeat (first | apply Kd.R_alloc | apply Kd.R_drewN | apply Kd.R_drew)); exact HO670109.out)) k_ hk)); (case aO => exact (by (with_reducible repeat (first | apply Kd.R_alloc | apply Kd.R_drewN | apply Kd.R_drew)); exact Kd.R_mono HO_8.out (fun _ hk => hk.2))); (case aS => exact (below_size (by repeat (first | (with_reducible first | exact HB.out | apply below_alloc | apply pw_below_drewN | apply below_drew1) | exact HB.out)))); (case aL => have := LMc7.out; omega); intro v670111 w10 ho hb hg hat; rw [← Ny670110.out] at ho; have n0_ := Aside0.mk (Kd.R_after (ok := (fun _ => True)) (by (with_reducible repeat (first | apply Kd.R_alloc | apply Kd.R_drewN | apply Kd.R_drew)); exact Kd.R_mono HO670109.out (fun _ hk => ⟨trivial, hk⟩)) hg hat); have n1_ := Aside0.mk (hb); have n2_ := Aside0.mk (ho); clear HO670109; clear HB; clear HO_8; have HO670109 := n0_; have HB := n1_; have HO670112 := n2_; clear n0_ n1_ n2_; clear ho hb hg hat))
            repeat (go_quiet (first | ((with_reducible refine gate_builtin (b := .append) (xs := #[.tmp 18, .tmp 19]) rfl ?_); at_builtin; refine Kd.R_append (Kd.int .i64) (w0 := w) w.heap.size rfl (.tmp 18) (.tmp 19) 49 3 (.int .i64 0) 8 rfl Tryd.underlying49 info3 rfl (by decide) (by omega) (.slice Ao8 x7_1.length co8) x7_1 0 [.int .i64 0] (fun k_ => some k_ ≠ (u8 : Value).ownBlock) (fun _ => False) rfl rfl ?aP (fun _ hk => hk.elim) ?aF ?aO ?aB ?aS ?aL ?_; (case aP => exact rfl); (case aB => exact (by repeat (first | (with_reducible first | exact HB.out | apply below_alloc | apply pw_below_drewN | apply below_drew1) | exact HB.out))); (case aF => exact (fun k_ hk => Kd.fresh' (Kd.R_lt (by (with_reducible repeat (first | apply Kd.R_alloc | apply Kd.R_drewN | apply Kd.R_drew)); exact HO_8.out)) k_ hk)); (case aO => exact (by (with_reducible repeat (first | apply Kd.R_alloc | apply Kd.R_drewN | apply Kd.R_drew)); exact HO_7.out)); (case aS => exact (below_size (by repeat (first | (with_reducible first | exact HB.out | apply below_alloc | apply pw_below_drewN | apply below_drew1) | exact HB.out)))); (case aL => have := LMc6.out; omega); intro v670108 w9 ho hb hg hat; rw [← Ny670107.out] at ho; have n0_ := Aside0.mk (Kd.R_after (ok := (fun _ => True)) (by (with_reducible repeat (first | apply Kd.R_alloc | apply Kd.R_drewN | apply Kd.R_drew)); exact Kd.R_mono HO_8.out (fun _ hk => ⟨trivial, hk⟩)) hg hat); have n1_ := Aside0.mk (hb); have n2_ := Aside0.mk (ho); clear HO_8; clear HB; clear HO_7; have HO_8 := n0_; have HB := n1_; have HO670109 := n2_; clear n0_ n1_ n2_; clear ho hb hg hat) | ((with_reducible refine gate_builtin (b := .append) (xs := #[.tmp 21, .tmp 23]) rfl ?_); at_builtin; refine Kd.R_append (Kd.int .i64) (w0 := w) w.heap.size rfl (.tmp 21) (.tmp 23) 49 3 (.int .i64 0) 8 rfl Tryd.underlying49 info3 rfl (by decide) (by omega) u8 x8_1 a1 [.int .i64 a1] (fun k_ => some k_ ≠ (v670108 : Value).ownBlock) (fun _ => False) rfl rfl ?aP (fun _ hk => hk.elim) ?aF ?aO ?aB ?aS ?aL ?_; (case aP => exact rfl); (case aB => exact (by repeat (first | (with_reducible first | exact HB.out | apply below_alloc | apply pw_below_drewN | apply below_drew1) | exact HB.out))); (case aF => exact (fun k_ hk => Kd.fresh' (Kd.R_lt (by (with_reducible repeat (first | apply Kd.R_alloc | apply Kd.R_drewN | apply Kd.R_drew)); exact HO670109.out)) k_ hk)); (case aO => exact (by (with_reducible repeat (first | apply Kd.R_alloc | apply Kd.R_drewN | apply Kd.R_drew)); exact Kd.R_mono HO_8.out (fun _ hk => hk.2))); (case aS => exact (below_size (by repeat (first | (with_reducible first | exact HB.out | apply below_alloc | apply pw_below_drewN | apply below_drew1) | exact HB.out)))); (case aL => have := LMc7.out; omega); intro v670111 w10 ho hb hg hat; rw [← Ny670110.out] at ho; have n0_ := Aside0.mk (Kd.R_after (ok := (fun _ => True)) (by (with_reducible repeat (first | apply Kd.R_alloc | apply Kd.R_drewN | apply Kd.R_drew)); exact Kd.R_mono HO670109.out (fun _ hk => ⟨trivial, hk⟩)) hg hat); have n1_ := Aside0.mk (hb); have n2_ := Aside0.mk (ho); clear HO670109; clear HB; clear HO_8; have HO670109 := n0_; have HB := n1_; have HO670112 := n2_; clear n0_ n1_ n2_; clear ho hb hg hat)); try go_wp2_with (first | ((with_reducible refine gate_builtin (b := .append) (xs := #[.tmp 18, .tmp 19]) rfl ?_); at_builtin; refine Kd.R_append (Kd.int .i64) (w0 := w) w.heap.size rfl (.tmp 18) (.tmp 19) 49 3 (.int .i64 0) 8 rfl Tryd.underlying49 info3 rfl (by decide) (by omega) (.slice Ao8 x7_1.length co8) x7_1 0 [.int .i64 0] (fun k_ => some k_ ≠ (u8 : Value).ownBlock) (fun _ => False) rfl rfl ?aP (fun _ hk => hk.elim) ?aF ?aO ?aB ?aS ?aL ?_; (case aP => exact rfl); (case aB => exact (by repeat (first | (with_reducible first | exact HB.out | apply below_alloc | apply pw_below_drewN | apply below_drew1) | exact HB.out))); (case aF => exact (fun k_ hk => Kd.fresh' (Kd.R_lt (by (with_reducible repeat (first | apply Kd.R_alloc | apply Kd.R_drewN | apply Kd.R_drew)); exact HO_8.out)) k_ hk)); (case aO => exact (by (with_reducible repeat (first | apply Kd.R_alloc | apply Kd.R_drewN | apply Kd.R_drew)); exact HO_7.out)); (case aS => exact (below_size (by repeat (first | (with_reducible first | exact HB.out | apply below_alloc | apply pw_below_drewN | apply below_drew1) | exact HB.out)))); (case aL => have := LMc6.out; omega); intro v670108 w9 ho hb hg hat; rw [← Ny670107.out] at ho; have n0_ := Aside0.mk (Kd.R_after (ok := (fun _ => True)) (by (with_reducible repeat (first | apply Kd.R_alloc | apply Kd.R_drewN | apply Kd.R_drew)); exact Kd.R_mono HO_8.out (fun _ hk => ⟨trivial, hk⟩)) hg hat); have n1_ := Aside0.mk (hb); have n2_ := Aside0.mk (ho); clear HO_8; clear HB; clear HO_7; have HO_8 := n0_; have HB := n1_; have HO670109 := n2_; clear n0_ n1_ n2_; clear ho hb hg hat) | ((with_reducible refine gate_builtin (b := .append) (xs := #[.tmp 21, .tmp 23]) rfl ?_); at_builtin; refine Kd.R_append (Kd.int .i64) (w0 := w) w.heap.size rfl (.tmp 21) (.tmp 23) 49 3 (.int .i64 0) 8 rfl Tryd.underlying49 info3 rfl (by decide) (by omega) u8 x8_1 a1 [.int .i64 a1] (fun k_ => some k_ ≠ (v670108 : Value).ownBlock) (fun _ => False) rfl rfl ?aP (fun _ hk => hk.elim) ?aF ?aO ?aB ?aS ?aL ?_; (case aP => exact rfl); (case aB => exact (by repeat (first | (with_reducible first | exact HB.out | apply below_alloc | apply pw_below_drewN | apply below_drew1) | exact HB.out))); (case aF => exact (fun k_ hk => Kd.fresh' (Kd.R_lt (by (with_reducible repeat (first | apply Kd.R_alloc | apply Kd.R_drewN | apply Kd.R_drew)); exact HO670109.out)) k_ hk)); (case aO => exact (by (with_reducible repeat (first | apply Kd.R_alloc | apply Kd.R_drewN | apply Kd.R_drew)); exact Kd.R_mono HO_8.out (fun _ hk => hk.2))); (case aS => exact (below_size (by repeat (first | (with_reducible first | exact HB.out | apply below_alloc | apply pw_below_drewN | apply below_drew1) | exact HB.out)))); (case aL => have := LMc7.out; omega); intro v670111 w10 ho hb hg hat; rw [← Ny670110.out] at ho; have n0_ := Aside0.mk (Kd.R_after (ok := (fun _ => True)) (by (with_reducible repeat (first | apply Kd.R_alloc | apply Kd.R_drewN | apply Kd.R_drew)); exact Kd.R_mono HO670109.out (fun _ hk => ⟨trivial, hk⟩)) hg hat); have n1_ := Aside0.mk (hb); have n2_ := Aside0.mk (ho); clear HO670109; clear HB; clear HO_8; have HO670109 := n0_; have HB := n1_; have HO670112 := n2_; clear n0_ n1_ n2_; clear ho hb hg hat)))
            go_roundg k1
            case measure => have := HK1.out; omega
            case rel => exact ⟨(y670107), (y670110), H', ⟨by have := HK1.out; omega⟩, ⟨by (with_reducible repeat (first | apply Kd.R_alloc | apply Kd.R_drewN | apply Kd.R_drew)); exact Kd.R_mono HO670109.out (fun _ hk => hk.2)⟩, ⟨by (with_reducible repeat (first | apply Kd.R_alloc | apply Kd.R_drewN | apply Kd.R_drew)); exact HO670112.out⟩, ⟨by repeat (first | (with_reducible first | exact HB.out | apply below_alloc | apply pw_below_drewN | apply below_drew1) | exact HB.out)⟩⟩
          · rw [if_neg c7] at H
            exact absurd H (by simp)
        · rw [if_neg c6] at H
          exact absurd H (by simp)
      · rw [if_neg c5] at H
        have c5b0 : decide ((x7_1.length : Int) < 3) = false := decide_eq_false c5
        have c5b1 : decide (x7_1.length < 3) = false := decide_eq_false (by omega)
        clear c5
        have HC11 := Aside0.mk H
        clear H
        obtain ⟨Ao12, co12, eo12⟩ := Kd.R_slice HO_7.out
        subst eo12
        go_upto_region 5 with (fail)
        repeat (go_quiet (fail); go_upto_region 5 with (fail))
        go_cut [44] (fun v44 wc => ∃ (kq : Nat) (x44_10 : Bool), v44 = .bool x44_10 ∧ Aside0 (larderref03_clock.j1 kq x7_1 x8_1 x44_10 = some (r1, r2, r3)) ∧ Aside0 (kq ≤ k1) ∧ Aside0 (Kd.R (Kd.int .i64) 3 wc w.heap.size (fun k_ => some k_ ≠ (u8 : Value).ownBlock) (.slice Ao12 x7_1.length co12) x7_1) ∧ Aside0 (Kd.R (Kd.int .i64) 3 wc w.heap.size (fun k_ => some k_ ≠ ((.slice Ao12 x7_1.length co12) : Value).ownBlock) u8 x8_1) ∧ Aside0 (Below w.heap.size w wc))
        case first =>
          have H := HC11.out
          clear HC11
          by_cases c13 : 0 < (x7_1.length : Int)
          · rw [if_pos c13] at H
            have c13b0 : decide (0 < (x7_1.length : Int)) = true := decide_eq_true c13
            have c13b1 : decide (0 < x7_1.length) = true := decide_eq_true (by omega)
            clear c13
            (first | rw [c13b0] | (simp only [i64_w, i32_w]; rw [c13b0]) | skip)
            by_cases c14 : (rd x7_1 0) > 24
            · rw [if_pos c14] at H
              have c14b0 : decide (24 < (rd x7_1 0)) = true := decide_eq_true c14
              clear c14
              have H' := Aside0.mk H
              clear H
              have p670113 : 0 ≤ (0 : Int) := (by omega)
              have q670113 : 0 < (x7_1.length : Int) := of_decide_eq_true (by first | (with_reducible assumption) | assumption)
              obtain ⟨ad670113, e670113, hx670113_0⟩ := Kd.at_int (Kd.R_reads' HO_7.out).2.2 0 p670113 q670113
              cases e670113
              have qi670113 : (0 < x7_1.length) = True := eq_true (by omega)
              (try rw [show ((0 : Int)).toNat = 0 from rfl] at hx670113_0)
              (try rw [Addr.add_zero'] at hx670113_0)
              replace p670113 := eq_true p670113
              replace q670113 := eq_true q670113
              go_wp2
              repeat (go_quiet (fail); try go_wp2)
              go_meet
              case rel => exact ⟨_, (true), (by first | rfl | (simp; done) | (simp [*]; done)), H', ⟨by have := HK1.out; first | omega | exact Nat.le_refl _⟩, ⟨by (with_reducible repeat (first | apply Kd.R_alloc | apply Kd.R_drewN | apply Kd.R_drew)); exact HO_7.out⟩, ⟨by (with_reducible repeat (first | apply Kd.R_alloc | apply Kd.R_drewN | apply Kd.R_drew)); exact HO_8.out⟩, ⟨by repeat (first | (with_reducible first | exact HB.out | apply below_alloc | apply pw_below_drewN | apply below_drew1) | exact HB.out)⟩⟩
            · rw [if_neg c14] at H
              have c14b0 : decide (24 < (rd x7_1 0)) = false := decide_eq_false c14
              clear c14
              by_cases c15 : (rd x7_1 0) = 24
              · rw [if_pos c15] at H
                have c15b0 : ((rd x7_1 0) == 24) = true := beq_iff_eq.mpr c15
                have c15b1 : ((rd x7_1 0) != 24) = false := bne_eq_false_iff_eq.mpr c15
                clear c15
                by_cases c16 : 1 < (x7_1.length : Int)
                · rw [if_pos c16] at H
                  have c16b0 : decide (1 < (x7_1.length : Int)) = true := decide_eq_true c16
                  have c16b1 : decide (1 < x7_1.length) = true := decide_eq_true (by omega)
                  clear c16
                  by_cases c17 : 2 < (x7_1.length : Int)
                  · rw [if_pos c17] at H
                    have c17b0 : decide (2 < (x7_1.length : Int)) = true := decide_eq_true c17
                    have c17b1 : decide (2 < x7_1.length) = true := decide_eq_true (by omega)
                    clear c17
                    have H' := Aside0.mk H
                    clear H
                    have p670113 : 0 ≤ (0 : Int) := (by omega)
                    have q670113 : 0 < (x7_1.length : Int) := of_decide_eq_true (by first | (with_reducible assumption) | assumption)
                    obtain ⟨ad670113, e670113, hx670113_0⟩ := Kd.at_int (Kd.R_reads' HO_7.out).2.2 0 p670113 q670113
                    cases e670113
                    have qi670113 : (0 < x7_1.length) = True := eq_true (by omega)
                    (try rw [show ((0 : Int)).toNat = 0 from rfl] at hx670113_0)
                    (try rw [Addr.add_zero'] at hx670113_0)
                    replace p670113 := eq_true p670113
                    replace q670113 := eq_true q670113
                    have p670114 : 0 ≤ (0 : Int) := (by omega)
                    have q670114 : 0 < (x7_1.length : Int) := of_decide_eq_true (by first | (with_reducible assumption) | assumption)
                    obtain ⟨ad670114, e670114, hx670114_0⟩ := Kd.at_int (Kd.R_reads' HO_7.out).2.2 0 p670114 q670114
                    obtain rfl : ad670113 = ad670114 := (by injection e670114)
                    have qi670114 : (0 < x7_1.length) = True := eq_true (by omega)
                    (try rw [show ((0 : Int)).toNat = 0 from rfl] at hx670114_0)
                    (try rw [Addr.add_zero'] at hx670114_0)
                    replace p670114 := eq_true p670114
                    replace q670114 := eq_true q670114
                    have p670115 : 0 ≤ (1 : Int) := (by omega)
                    have q670115 : 1 < (x7_1.length : Int) := of_decide_eq_true (by first | (with_reducible assumption) | assumption)
                    obtain ⟨ad670115, e670115, hx670115_0⟩ := Kd.at_int (Kd.R_reads' HO_7.out).2.2 1 p670115 q670115
                    obtain rfl : ad670113 = ad670115 := (by injection e670115)
                    (try simp only [show (1 : Int).toNat = 1 from rfl, Nat.reduceMul, Nat.reduceEqDiff, Go.Addr.add, ↓reduceIte] at hx670115_0)
                    have qi670115 : (1 < x7_1.length) = True := eq_true (by omega)
                    (try rw [show ((1 : Int)).toNat = 1 from rfl] at hx670115_0)
                    replace p670115 := eq_true p670115
                    replace q670115 := eq_true q670115
                    have p670116 : 0 ≤ (2 : Int) := (by omega)
                    have q670116 : 2 < (x7_1.length : Int) := of_decide_eq_true (by first | (with_reducible assumption) | assumption)
                    obtain ⟨ad670116, e670116, hx670116_0⟩ := Kd.at_int (Kd.R_reads' HO_7.out).2.2 2 p670116 q670116
                    obtain rfl : ad670113 = ad670116 := (by injection e670116)
                    (try simp only [show (2 : Int).toNat = 2 from rfl, Nat.reduceMul, Nat.reduceEqDiff, Go.Addr.add, ↓reduceIte] at hx670116_0)
                    have qi670116 : (2 < x7_1.length) = True := eq_true (by omega)
                    (try rw [show ((2 : Int)).toNat = 2 from rfl] at hx670116_0)
                    replace p670116 := eq_true p670116
                    replace q670116 := eq_true q670116
                    go_wp2
                    repeat (go_quiet (fail); try go_wp2)
                    go_meet
                    case rel => exact ⟨_, (decide ((wrap64 ((rd x7_1 1) + (rd x7_1 2))) > 0)), (by first | rfl | (simp; done) | (simp [*]; done)), H', ⟨by have := HK1.out; first | omega | exact Nat.le_refl _⟩, ⟨by (with_reducible repeat (first | apply Kd.R_alloc | apply Kd.R_drewN | apply Kd.R_drew)); exact HO_7.out⟩, ⟨by (with_reducible repeat (first | apply Kd.R_alloc | apply Kd.R_drewN | apply Kd.R_drew)); exact HO_8.out⟩, ⟨by repeat (first | (with_reducible first | exact HB.out | apply below_alloc | apply pw_below_drewN | apply below_drew1) | exact HB.out)⟩⟩
                  · rw [if_neg c17] at H
                    exact absurd H (by simp)
                · rw [if_neg c16] at H
                  exact absurd H (by simp)
              · rw [if_neg c15] at H
                have c15b0 : ((rd x7_1 0) == 24) = false := beq_eq_false_iff_ne.mpr c15
                have c15b1 : ((rd x7_1 0) != 24) = true := bne_iff_ne.mpr c15
                have H' := Aside0.mk H
                clear H
                have p670113 : 0 ≤ (0 : Int) := (by omega)
                have q670113 : 0 < (x7_1.length : Int) := of_decide_eq_true (by first | (with_reducible assumption) | assumption)
                obtain ⟨ad670113, e670113, hx670113_0⟩ := Kd.at_int (Kd.R_reads' HO_7.out).2.2 0 p670113 q670113
                cases e670113
                have qi670113 : (0 < x7_1.length) = True := eq_true (by omega)
                (try rw [show ((0 : Int)).toNat = 0 from rfl] at hx670113_0)
                (try rw [Addr.add_zero'] at hx670113_0)
                replace p670113 := eq_true p670113
                replace q670113 := eq_true q670113
                have p670114 : 0 ≤ (0 : Int) := (by omega)
                have q670114 : 0 < (x7_1.length : Int) := of_decide_eq_true (by first | (with_reducible assumption) | assumption)
                obtain ⟨ad670114, e670114, hx670114_0⟩ := Kd.at_int (Kd.R_reads' HO_7.out).2.2 0 p670114 q670114
                obtain rfl : ad670113 = ad670114 := (by injection e670114)
                have qi670114 : (0 < x7_1.length) = True := eq_true (by omega)
                (try rw [show ((0 : Int)).toNat = 0 from rfl] at hx670114_0)
                (try rw [Addr.add_zero'] at hx670114_0)
                replace p670114 := eq_true p670114
                replace q670114 := eq_true q670114
                go_wp2
                repeat (go_quiet (fail); try go_wp2)
                go_meet
                case rel => exact ⟨_, (false), (by first | rfl | (simp; done) | (simp [*]; done)), H', ⟨by have := HK1.out; first | omega | exact Nat.le_refl _⟩, ⟨by (with_reducible repeat (first | apply Kd.R_alloc | apply Kd.R_drewN | apply Kd.R_drew)); exact HO_7.out⟩, ⟨by (with_reducible repeat (first | apply Kd.R_alloc | apply Kd.R_drewN | apply Kd.R_drew)); exact HO_8.out⟩, ⟨by repeat (first | (with_reducible first | exact HB.out | apply below_alloc | apply pw_below_drewN | apply below_drew1) | exact HB.out)⟩⟩
          · rw [if_neg c13] at H
            exact absurd H (by simp)
        case rest =>
          clear HC11
          try clear c1
          try clear p2
          try clear c5
          try clear c5b0
          try clear c5b1
          try clear c6
          try clear p6
          try clear q6
          try clear hx6
          try clear qi6
          try clear c7
          try clear c13
          try clear c13b0
          try clear c13b1
          try clear c14
          try clear c14b0
          try clear c15
          try clear c15b0
          try clear c15b1
          try clear c16
          try clear c16b0
          try clear c16b1
          try clear c17
          try clear c17b0
          try clear c17b1
          try clear hx670113_0
          try clear hx670114_0
          try clear hx670115_0
          try clear hx670116_0
          try clear p2
          try clear p670113
          try clear p670114
          try clear p670115
          try clear p670116
          try clear q670113
          try clear q670114
          try clear q670115
          try clear q670116
          obtain ⟨kq, x44_10, rfl, HA, HJ10, HO_7, HO_8, HB⟩ := hcut
          cases kq with
          | zero => exact absurd HA.out (by simp [larderref03_clock.j1])
          | succ kj10 =>
            have H := HA.out
            clear HA
            simp only [larderref03_clock.j1] at H
            by_cases c18 : x44_10 = true
            · subst c18
              have H1 : (if 0 < (x8_1.length : Int) then (some (0, rd x8_1 0, false)) else (none)) = some (r1, r2, r3) := by rw [if_pos rfl] at H; exact H
              clear H
              have H := H1
              clear H1
              by_cases c19 : 0 < (x8_1.length : Int)
              · rw [if_pos c19] at H
                have c19b0 : decide (0 < (x8_1.length : Int)) = true := decide_eq_true c19
                have c19b1 : decide (0 < x8_1.length) = true := decide_eq_true (by omega)
                clear c19
                simp only [Option.some.injEq, Prod.mk.injEq] at H
                obtain ⟨rfl, rfl, rfl⟩ := H
                obtain ⟨Ao20, co20, eo20⟩ := Kd.R_slice HO_8.out
                subst eo20
                have p670117 : 0 ≤ (0 : Int) := (by omega)
                have q670117 : 0 < (x8_1.length : Int) := of_decide_eq_true (by first | (with_reducible assumption) | assumption)
                obtain ⟨ad670117, e670117, hx670117_0⟩ := Kd.at_int (Kd.R_reads' HO_8.out).2.2 0 p670117 q670117
                cases e670117
                have qi670117 : (0 < x8_1.length) = True := eq_true (by omega)
                (try rw [show ((0 : Int)).toNat = 0 from rfl] at hx670117_0)
                (try rw [Addr.add_zero'] at hx670117_0)
                replace p670117 := eq_true p670117
                replace q670117 := eq_true q670117
                go_wp2
                repeat (go_quiet (fail); try go_wp2)
                go_ret3
                exact ⟨by first | rfl | (simp [errW_none, errW_some] <;> rfl) | (simp [*, errW_none, errW_some] <;> rfl), by repeat (first | (with_reducible first | exact HB.out | apply below_alloc | apply pw_below_drewN | apply below_drew1) | exact HB.out)⟩
              · rw [if_neg c19] at H
                exact absurd H (by simp)
            · replace c18 := Bool.eq_false_iff.mpr c18
              subst c18
              have H1 : (if 1 < (x7_1.length : Int) then (if (rd x7_1 1) > 59 then (if 1 < (x8_1.length : Int) then (some (0, rd x8_1 1, false)) else (none)) else (if 2 < (x7_1.length : Int) then (if (rd x7_1 2) > 59 then (if 2 < (x8_1.length : Int) then (some (0, rd x8_1 2, false)) else (none)) else (if 0 < (x7_1.length : Int) then (some (wrap64 ((wrap64 ((wrap64 ((rd x7_1 0) * 3600)) + (wrap64 ((rd x7_1 1) * 60)))) + (rd x7_1 2)), 0, true)) else (none))) else (none))) else (none)) = some (r1, r2, r3) := by rw [if_neg (show ¬ (false = true) by decide)] at H; exact H
              clear H
              have H := H1
              clear H1
              by_cases c21 : 1 < (x7_1.length : Int)
              · rw [if_pos c21] at H
                have c21b0 : decide (1 < (x7_1.length : Int)) = true := decide_eq_true c21
                have c21b1 : decide (1 < x7_1.length) = true := decide_eq_true (by omega)
                clear c21
                by_cases c22 : (rd x7_1 1) > 59
                · rw [if_pos c22] at H
                  have c22b0 : decide (59 < (rd x7_1 1)) = true := decide_eq_true c22
                  clear c22
                  by_cases c23 : 1 < (x8_1.length : Int)
                  · rw [if_pos c23] at H
                    have c23b0 : decide (1 < (x8_1.length : Int)) = true := decide_eq_true c23
                    have c23b1 : decide (1 < x8_1.length) = true := decide_eq_true (by omega)
                    clear c23
                    simp only [Option.some.injEq, Prod.mk.injEq] at H
                    obtain ⟨rfl, rfl, rfl⟩ := H
                    have p670118 : 0 ≤ (1 : Int) := (by omega)
                    have q670118 : 1 < (x7_1.length : Int) := of_decide_eq_true (by first | (with_reducible assumption) | assumption)
                    obtain ⟨ad670118, e670118, hx670118_0⟩ := Kd.at_int (Kd.R_reads' HO_7.out).2.2 1 p670118 q670118
                    cases e670118
                    (try simp only [show (1 : Int).toNat = 1 from rfl, Nat.reduceMul, Nat.reduceEqDiff, Go.Addr.add, ↓reduceIte] at hx670118_0)
                    have qi670118 : (1 < x7_1.length) = True := eq_true (by omega)
                    (try rw [show ((1 : Int)).toNat = 1 from rfl] at hx670118_0)
                    replace p670118 := eq_true p670118
                    replace q670118 := eq_true q670118
                    obtain ⟨Ao24, co24, eo24⟩ := Kd.R_slice HO_8.out
                    subst eo24
                    have p670119 : 0 ≤ (1 : Int) := (by omega)
                    have q670119 : 1 < (x8_1.length : Int) := of_decide_eq_true (by first | (with_reducible assumption) | assumption)
                    obtain ⟨ad670119, e670119, hx670119_0⟩ := Kd.at_int (Kd.R_reads' HO_8.out).2.2 1 p670119 q670119
                    cases e670119
                    (try simp only [show (1 : Int).toNat = 1 from rfl, Nat.reduceMul, Nat.reduceEqDiff, Go.Addr.add, ↓reduceIte] at hx670119_0)
                    have qi670119 : (1 < x8_1.length) = True := eq_true (by omega)
                    (try rw [show ((1 : Int)).toNat = 1 from rfl] at hx670119_0)
                    replace p670119 := eq_true p670119
                    replace q670119 := eq_true q670119
                    go_wp2
                    repeat (go_quiet (fail); try go_wp2)
                    go_ret3
                    exact ⟨by first | rfl | (simp [errW_none, errW_some] <;> rfl) | (simp [*, errW_none, errW_some] <;> rfl), by repeat (first | (with_reducible first | exact HB.out | apply below_alloc | apply pw_below_drewN | apply below_drew1) | exact HB.out)⟩
                  · rw [if_neg c23] at H
                    exact absurd H (by simp)
                · rw [if_neg c22] at H
                  have c22b0 : decide (59 < (rd x7_1 1)) = false := decide_eq_false c22
                  clear c22
                  by_cases c25 : 2 < (x7_1.length : Int)
                  · rw [if_pos c25] at H
                    have c25b0 : decide (2 < (x7_1.length : Int)) = true := decide_eq_true c25
                    have c25b1 : decide (2 < x7_1.length) = true := decide_eq_true (by omega)
                    clear c25
                    by_cases c26 : (rd x7_1 2) > 59
                    · rw [if_pos c26] at H
                      have c26b0 : decide (59 < (rd x7_1 2)) = true := decide_eq_true c26
                      clear c26
                      by_cases c27 : 2 < (x8_1.length : Int)
                      · rw [if_pos c27] at H
                        have c27b0 : decide (2 < (x8_1.length : Int)) = true := decide_eq_true c27
                        have c27b1 : decide (2 < x8_1.length) = true := decide_eq_true (by omega)
                        clear c27
                        simp only [Option.some.injEq, Prod.mk.injEq] at H
                        obtain ⟨rfl, rfl, rfl⟩ := H
                        have p670118 : 0 ≤ (1 : Int) := (by omega)
                        have q670118 : 1 < (x7_1.length : Int) := of_decide_eq_true (by first | (with_reducible assumption) | assumption)
                        obtain ⟨ad670118, e670118, hx670118_0⟩ := Kd.at_int (Kd.R_reads' HO_7.out).2.2 1 p670118 q670118
                        cases e670118
                        (try simp only [show (1 : Int).toNat = 1 from rfl, Nat.reduceMul, Nat.reduceEqDiff, Go.Addr.add, ↓reduceIte] at hx670118_0)
                        have qi670118 : (1 < x7_1.length) = True := eq_true (by omega)
                        (try rw [show ((1 : Int)).toNat = 1 from rfl] at hx670118_0)
                        replace p670118 := eq_true p670118
                        replace q670118 := eq_true q670118
                        have p670120 : 0 ≤ (2 : Int) := (by omega)
                        have q670120 : 2 < (x7_1.length : Int) := of_decide_eq_true (by first | (with_reducible assumption) | assumption)
                        obtain ⟨ad670120, e670120, hx670120_0⟩ := Kd.at_int (Kd.R_reads' HO_7.out).2.2 2 p670120 q670120
                        obtain rfl : ad670118 = ad670120 := (by injection e670120)
                        (try simp only [show (2 : Int).toNat = 2 from rfl, Nat.reduceMul, Nat.reduceEqDiff, Go.Addr.add, ↓reduceIte] at hx670120_0)
                        have qi670120 : (2 < x7_1.length) = True := eq_true (by omega)
                        (try rw [show ((2 : Int)).toNat = 2 from rfl] at hx670120_0)
                        replace p670120 := eq_true p670120
                        replace q670120 := eq_true q670120
                        obtain ⟨Ao28, co28, eo28⟩ := Kd.R_slice HO_8.out
                        subst eo28
                        have p670121 : 0 ≤ (2 : Int) := (by omega)
                        have q670121 : 2 < (x8_1.length : Int) := of_decide_eq_true (by first | (with_reducible assumption) | assumption)
                        obtain ⟨ad670121, e670121, hx670121_0⟩ := Kd.at_int (Kd.R_reads' HO_8.out).2.2 2 p670121 q670121
                        cases e670121
                        (try simp only [show (2 : Int).toNat = 2 from rfl, Nat.reduceMul, Nat.reduceEqDiff, Go.Addr.add, ↓reduceIte] at hx670121_0)
                        have qi670121 : (2 < x8_1.length) = True := eq_true (by omega)
                        (try rw [show ((2 : Int)).toNat = 2 from rfl] at hx670121_0)
                        replace p670121 := eq_true p670121
                        replace q670121 := eq_true q670121
                        go_wp2
                        repeat (go_quiet (fail); try go_wp2)
                        go_ret3
                        exact ⟨by first | rfl | (simp [errW_none, errW_some] <;> rfl) | (simp [*, errW_none, errW_some] <;> rfl), by repeat (first | (with_reducible first | exact HB.out | apply below_alloc | apply pw_below_drewN | apply below_drew1) | exact HB.out)⟩
                      · rw [if_neg c27] at H
                        exact absurd H (by simp)
                    · rw [if_neg c26] at H
                      have c26b0 : decide (59 < (rd x7_1 2)) = false := decide_eq_false c26
                      clear c26
                      by_cases c29 : 0 < (x7_1.length : Int)
                      · rw [if_pos c29] at H
                        have c29b0 : decide (0 < (x7_1.length : Int)) = true := decide_eq_true c29
                        have c29b1 : decide (0 < x7_1.length) = true := decide_eq_true (by omega)
                        clear c29
                        simp only [Option.some.injEq, Prod.mk.injEq] at H
                        obtain ⟨rfl, rfl, rfl⟩ := H
                        have p670118 : 0 ≤ (1 : Int) := (by omega)
                        have q670118 : 1 < (x7_1.length : Int) := of_decide_eq_true (by first | (with_reducible assumption) | assumption)
                        obtain ⟨ad670118, e670118, hx670118_0⟩ := Kd.at_int (Kd.R_reads' HO_7.out).2.2 1 p670118 q670118
                        cases e670118
                        (try simp only [show (1 : Int).toNat = 1 from rfl, Nat.reduceMul, Nat.reduceEqDiff, Go.Addr.add, ↓reduceIte] at hx670118_0)
                        have qi670118 : (1 < x7_1.length) = True := eq_true (by omega)
                        (try rw [show ((1 : Int)).toNat = 1 from rfl] at hx670118_0)
                        replace p670118 := eq_true p670118
                        replace q670118 := eq_true q670118
                        have p670120 : 0 ≤ (2 : Int) := (by omega)
                        have q670120 : 2 < (x7_1.length : Int) := of_decide_eq_true (by first | (with_reducible assumption) | assumption)
                        obtain ⟨ad670120, e670120, hx670120_0⟩ := Kd.at_int (Kd.R_reads' HO_7.out).2.2 2 p670120 q670120
                        obtain rfl : ad670118 = ad670120 := (by injection e670120)
                        (try simp only [show (2 : Int).toNat = 2 from rfl, Nat.reduceMul, Nat.reduceEqDiff, Go.Addr.add, ↓reduceIte] at hx670120_0)
                        have qi670120 : (2 < x7_1.length) = True := eq_true (by omega)
                        (try rw [show ((2 : Int)).toNat = 2 from rfl] at hx670120_0)
                        replace p670120 := eq_true p670120
                        replace q670120 := eq_true q670120
                        have p670122 : 0 ≤ (0 : Int) := (by omega)
                        have q670122 : 0 < (x7_1.length : Int) := of_decide_eq_true (by first | (with_reducible assumption) | assumption)
                        obtain ⟨ad670122, e670122, hx670122_0⟩ := Kd.at_int (Kd.R_reads' HO_7.out).2.2 0 p670122 q670122
                        obtain rfl : ad670118 = ad670122 := (by injection e670122)
                        have qi670122 : (0 < x7_1.length) = True := eq_true (by omega)
                        (try rw [show ((0 : Int)).toNat = 0 from rfl] at hx670122_0)
                        (try rw [Addr.add_zero'] at hx670122_0)
                        replace p670122 := eq_true p670122
                        replace q670122 := eq_true q670122
                        have p670123 : 0 ≤ (1 : Int) := (by omega)
                        have q670123 : 1 < (x7_1.length : Int) := of_decide_eq_true (by first | (with_reducible assumption) | assumption)
                        obtain ⟨ad670123, e670123, hx670123_0⟩ := Kd.at_int (Kd.R_reads' HO_7.out).2.2 1 p670123 q670123
                        obtain rfl : ad670118 = ad670123 := (by injection e670123)
                        (try simp only [show (1 : Int).toNat = 1 from rfl, Nat.reduceMul, Nat.reduceEqDiff, Go.Addr.add, ↓reduceIte] at hx670123_0)
                        have qi670123 : (1 < x7_1.length) = True := eq_true (by omega)
                        (try rw [show ((1 : Int)).toNat = 1 from rfl] at hx670123_0)
                        replace p670123 := eq_true p670123
                        replace q670123 := eq_true q670123
                        have p670124 : 0 ≤ (2 : Int) := (by omega)
                        have q670124 : 2 < (x7_1.length : Int) := of_decide_eq_true (by first | (with_reducible assumption) | assumption)
                        obtain ⟨ad670124, e670124, hx670124_0⟩ := Kd.at_int (Kd.R_reads' HO_7.out).2.2 2 p670124 q670124
                        obtain rfl : ad670118 = ad670124 := (by injection e670124)
                        (try simp only [show (2 : Int).toNat = 2 from rfl, Nat.reduceMul, Nat.reduceEqDiff, Go.Addr.add, ↓reduceIte] at hx670124_0)
                        have qi670124 : (2 < x7_1.length) = True := eq_true (by omega)
                        (try rw [show ((2 : Int)).toNat = 2 from rfl] at hx670124_0)
                        replace p670124 := eq_true p670124
                        replace q670124 := eq_true q670124
                        go_wp2
                        repeat (go_quiet (fail); try go_wp2)
                        go_ret3
                        exact ⟨by first | rfl | (simp [errW_none, errW_some] <;> rfl) | (simp [*, errW_none, errW_some] <;> rfl), by repeat (first | (with_reducible first | exact HB.out | apply below_alloc | apply pw_below_drewN | apply below_drew1) | exact HB.out)⟩
                      · rw [if_neg c29] at H
                        exact absurd H (by simp)
                  · rw [if_neg c25] at H
                    exact absurd H (by simp)
              · rw [if_neg c21] at H
                exact absurd H (by simp)

end Go.Proofs.YtiklakkkgmilnaaDoor.GC
