-- written by a program (gp.py over the kit's print) for this claim
import Derived.Test.YtofafljfabgpmaaDoorGCx0
namespace Go.Proofs.YtofafljfabgpmaaDoor.GC
open Go.RowKit Go.Proofs.YtofafljfabgpmaaDoorW.PrintWords Go.Proofs.YtofafljfabgpmaaDoorW.PrintLast Go.Proofs.YtofafljfabgpmaaDoor.Ext Go.Proofs.YtofafljfabgpmaaDoor.PCal
attribute [local go_sem] max2_int min2_int max_two min_two   -- for this text alone
set_option linter.unusedVariables false
set_option linter.unusedSimpArgs false

/-! ### larderref03_fits: function 50 -/
mutual
def larderref03_fits.l0 : Nat → List Int → Int → Int → Int → Int → Int → Int → Int → Int → Int → Option (Bool)
  | 0, _, _, _, _, _, _, _, _, _, _ => none
  | k + 1, x3, x4, x5, x500102000, x500102001, x500102002, x500102003, x500102004, x500102005, x500102006 => if x5 < 7 then (if 0 ≤ x5 then (if x5 < (x3.length : Int) then (if (rd x3 x5) < 0 then (larderref03_fits.j1 k x3 x4 x5 true x500102000 x500102001 x500102002 x500102003 x500102004 x500102005 x500102006) else (larderref03_fits.j1 k x3 x4 x5 (decide ((rd x3 x5) > 999999999)) x500102000 x500102001 x500102002 x500102003 x500102004 x500102005 x500102006)) else (none)) else (none)) else (if x500102002 = 0 then (some true) else (some (x4 == 0)))
def larderref03_fits.j1 : Nat → List Int → Int → Int → Bool → Int → Int → Int → Int → Int → Int → Int → Option (Bool)
  | 0, _, _, _, _, _, _, _, _, _, _, _ => none
  | k + 1, x3, x4, x5, x36, x500102000, x500102001, x500102002, x500102003, x500102004, x500102005, x500102006 => if x36 = true then (some false) else (if x5 = 2 then (larderref03_fits.l0 k x3 x4 (wrap64 (x5 + 1)) x500102000 x500102001 x500102002 x500102003 x500102004 x500102005 x500102006) else (if 0 ≤ x5 then (if x5 < (x3.length : Int) then (if (rd x3 x5) > 0 then (larderref03_fits.l0 k x3 (wrap64 (x4 + 1)) (wrap64 (x5 + 1)) x500102000 x500102001 x500102002 x500102003 x500102004 x500102005 x500102006) else (larderref03_fits.l0 k x3 x4 (wrap64 (x5 + 1)) x500102000 x500102001 x500102002 x500102003 x500102004 x500102005 x500102006)) else (none)) else (none)))
end
def larderref03_fits.f (k : Nat) (a0_0 : Int) (a0_1 : Int) (a0_2 : Int) (a0_3 : Int) (a0_4 : Int) (a0_5 : Int) (a0_6 : Int) : Option (Bool) := larderref03_fits.l0 k (([a0_0, a0_1, a0_2, a0_3, a0_4, a0_5, a0_6] : List Int)) 0 0 a0_0 a0_1 a0_2 a0_3 a0_4 a0_5 a0_6
theorem larderref03_fits.mono_l : ∀ k, (∀ y0 y1 y2 y3 y4 y5 y6 y7 y8 y9, LeO (larderref03_fits.l0 k y0 y1 y2 y3 y4 y5 y6 y7 y8 y9) (larderref03_fits.l0 (k + 1) y0 y1 y2 y3 y4 y5 y6 y7 y8 y9)) ∧ (∀ y0 y1 y2 y3 y4 y5 y6 y7 y8 y9 y10, LeO (larderref03_fits.j1 k y0 y1 y2 y3 y4 y5 y6 y7 y8 y9 y10) (larderref03_fits.j1 (k + 1) y0 y1 y2 y3 y4 y5 y6 y7 y8 y9 y10))
  | 0 => ⟨fun _ _ _ _ _ _ _ _ _ _ r h => by simp [larderref03_fits.l0] at h, fun _ _ _ _ _ _ _ _ _ _ _ r h => by simp [larderref03_fits.j1] at h⟩
  | k + 1 => by
    obtain ⟨ih0, ih1⟩ := larderref03_fits.mono_l k
    refine ⟨?_, ?_⟩
    · intro y0 y1 y2 y3 y4 y5 y6 y7 y8 y9
      unfold larderref03_fits.l0
      repeat' first
      | (with_reducible exact ih0 _ _ _ _ _ _ _ _ _ _)
      | (with_reducible exact ih1 _ _ _ _ _ _ _ _ _ _ _)
      | (with_reducible exact LeO.refl _)
      | (with_reducible exact LeO.none _)
      | (with_reducible refine LeO.ite ?_ ?_)
      | (with_reducible refine LeO.bind ?_ (fun _ => ?_))
      | exact ih0 _ _ _ _ _ _ _ _ _ _
      | exact ih1 _ _ _ _ _ _ _ _ _ _ _
      | exact LeO.none _
      | refine LeO.ite ?_ ?_
      | refine LeO.bind ?_ (fun _ => ?_)
    · intro y0 y1 y2 y3 y4 y5 y6 y7 y8 y9 y10
      unfold larderref03_fits.j1
      repeat' first
      | (with_reducible exact ih0 _ _ _ _ _ _ _ _ _ _)
      | (with_reducible exact ih1 _ _ _ _ _ _ _ _ _ _ _)
      | (with_reducible exact LeO.refl _)
      | (with_reducible exact LeO.none _)
      | (with_reducible refine LeO.ite ?_ ?_)
      | (with_reducible refine LeO.bind ?_ (fun _ => ?_))
      | exact ih0 _ _ _ _ _ _ _ _ _ _
      | exact ih1 _ _ _ _ _ _ _ _ _ _ _
      | exact LeO.none _
      | refine LeO.ite ?_ ?_
      | refine LeO.bind ?_ (fun _ => ?_)
theorem larderref03_fits.mono : ∀ a0 a1 a2 a3 a4 a5 a6 k, LeO (larderref03_fits.f k a0 a1 a2 a3 a4 a5 a6) (larderref03_fits.f (k + 1) a0 a1 a2 a3 a4 a5 a6) := by
  intro a0 a1 a2 a3 a4 a5 a6 k
  obtain ⟨ih0, ih1⟩ := larderref03_fits.mono_l k
  unfold larderref03_fits.f
  repeat' first
      | (with_reducible exact ih0 _ _ _ _ _ _ _ _ _ _)
      | (with_reducible exact ih1 _ _ _ _ _ _ _ _ _ _ _)
      | (with_reducible exact LeO.refl _)
      | (with_reducible exact LeO.none _)
      | (with_reducible refine LeO.ite ?_ ?_)
      | (with_reducible refine LeO.bind ?_ (fun _ => ?_))
      | exact ih0 _ _ _ _ _ _ _ _ _ _
      | exact ih1 _ _ _ _ _ _ _ _ _ _ _
      | exact LeO.none _
      | refine LeO.ite ?_ ?_
      | refine LeO.bind ?_ (fun _ => ?_)
set_option maxHeartbeats 8000000 in
set_option maxRecDepth 100000 in
theorem larderref03_fits.calls (k : Nat) (a0_0 : Int) (a0_1 : Int) (a0_2 : Int) (a0_3 : Int) (a0_4 : Int) (a0_5 : Int) (a0_6 : Int) (r : Bool) (w : World) (h : larderref03_fits.f k a0_0 a0_1 a0_2 a0_3 a0_4 a0_5 a0_6 = some r) :
    Calls Tryd.prog 50 #[.agg #[.int .i64 a0_0, .int .i64 a0_1, .int .i64 a0_2, .int .i64 a0_3, .int .i64 a0_4, .int .i64 a0_5, .int .i64 a0_6]] w fun e w' => e = .returned (.bool r) ∧ Below w.heap.size w w' := by
  have hu52 := Tryd.underlying52
  have HB := Aside0.mk (Below.refl w.heap.size w)
  have H : (larderref03_fits.l0 k (([a0_0, a0_1, a0_2, a0_3, a0_4, a0_5, a0_6] : List Int)) 0 0 a0_0 a0_1 a0_2 a0_3 a0_4 a0_5 a0_6) = some r := h
  clear h
  obtain ⟨y500102, hy500102⟩ : ∃ y_ : List Int, y_ = (([a0_0, a0_1, a0_2, a0_3, a0_4, a0_5, a0_6] : List Int)) := ⟨_, rfl⟩
  replace H : (larderref03_fits.l0 k y500102 0 0 a0_0 a0_1 a0_2 a0_3 a0_4 a0_5 a0_6) = some r := by first | (rw [hy500102]; with_reducible exact H) | (have H2_ := (Option.bind_some _ _).symm.trans H; rw [hy500102]; with_reducible exact H2_) | (have H2_ := (Option.bind_some _ _).symm.trans H; with_reducible exact H2_) | with_reducible exact H | (rw [hy500102]; exact H) | exact H
  have Ny500102 := Aside0.mk hy500102
  clear hy500102
  have H' := Aside0.mk H
  clear H
  go_enter Tryd.func50, Tryd.ntmps50
  go_wp2_with (first | ((with_reducible refine gate_dst (N := 1) rfl ?_); refine box_event ?hg (N := 1) ?hd (cs := #[.int .i64 a0_0, .int .i64 a0_1, .int .i64 a0_2, .int .i64 a0_3, .int .i64 a0_4, .int .i64 a0_5, .int .i64 a0_6]) (t := 52) ?hr ?_; (case hd => rfl); (case hg => rfl); (case hr => first | (go_simp; done) | (go_simp; rfl)); intro gb500101 hg w2 hbox hb; have n0_ := Aside0.mk (below_step (by repeat (first | (with_reducible first | exact HB.out | apply below_alloc | apply pw_below_drewN | apply below_drew1) | exact HB.out)) hb); have n1_ := Aside0.mk (hbox); have n2_ := Aside0.mk ((by rw [hg]; exact (below_size (by repeat (first | (with_reducible first | exact HB.out | apply below_alloc | apply pw_below_drewN | apply below_drew1) | exact HB.out))) : w.heap.size ≤ gb500101)); have n3_ := Aside0.mk ((by rw [hg]; exact (below_size (by repeat (first | (with_reducible first | exact HB.out | apply below_alloc | apply pw_below_drewN | apply below_drew1) | exact HB.out))) : w.heap.size ≤ gb500101)); clear HB; have HB := n0_; have BK500101 := n1_; have GW500101 := n2_; have GE500101 := n3_; clear n0_ n1_ n2_ n3_; clear hb hbox hg; have hcz3_0 : w2.cell? ⟨gb500101, 0, none⟩ = some (.int .i64 a0_0) := (blk_cell BK500101.out 0).trans rfl; have hcz3_1 : w2.cell? ⟨gb500101, 1, none⟩ = some (.int .i64 a0_1) := (blk_cell BK500101.out 1).trans rfl; have hcz3_2 : w2.cell? ⟨gb500101, 2, none⟩ = some (.int .i64 a0_2) := (blk_cell BK500101.out 2).trans rfl; have hcz3_3 : w2.cell? ⟨gb500101, 3, none⟩ = some (.int .i64 a0_3) := (blk_cell BK500101.out 3).trans rfl; have hcz3_4 : w2.cell? ⟨gb500101, 4, none⟩ = some (.int .i64 a0_4) := (blk_cell BK500101.out 4).trans rfl; have hcz3_5 : w2.cell? ⟨gb500101, 5, none⟩ = some (.int .i64 a0_5) := (blk_cell BK500101.out 5).trans rfl; have hcz3_6 : w2.cell? ⟨gb500101, 6, none⟩ = some (.int .i64 a0_6) := (blk_cell BK500101.out 6).trans rfl; have hfz3_0 := blk_frozen BK500101.out 0; have hfz3_1 := blk_frozen BK500101.out 1; have hfz3_2 := blk_frozen BK500101.out 2; have hfz3_3 := blk_frozen BK500101.out 3; have hfz3_4 := blk_frozen BK500101.out 4; have hfz3_5 := blk_frozen BK500101.out 5; have hfz3_6 := blk_frozen BK500101.out 6) | ((with_reducible refine gate_dst (N := 20) rfl ?_); refine Kd.R_lit (Kd.int .i64) _ 3 ?hg (N := 20) ?hd (xs := ([a0_0, a0_1, a0_2, a0_3, a0_4, a0_5, a0_6] : List Int)) (inner := [.int .i64 a0_0, .int .i64 a0_1, .int .i64 a0_2, .int .i64 a0_3, .int .i64 a0_4, .int .i64 a0_5, .int .i64 a0_6]) (ok := fun _ => True) (okp := fun _ => True) ?hr ?hp (fun _ hk => hk) trivial (Below.refl _ _) (Nat.le_refl _) (by simp) ?_; (case hd => rfl); (case hg => rfl); (case hr => first | (go_simp; done) | (go_simp; rfl)); (case hp => exact (Reps.one (show Kd.M (Kd.int .i64) _ _ _ a0_0 [.int .i64 a0_0] from rfl) (Reps.one (show Kd.M (Kd.int .i64) _ _ _ a0_1 [.int .i64 a0_1] from rfl) (Reps.one (show Kd.M (Kd.int .i64) _ _ _ a0_2 [.int .i64 a0_2] from rfl) (Reps.one (show Kd.M (Kd.int .i64) _ _ _ a0_3 [.int .i64 a0_3] from rfl) (Reps.one (show Kd.M (Kd.int .i64) _ _ _ a0_4 [.int .i64 a0_4] from rfl) (Reps.one (show Kd.M (Kd.int .i64) _ _ _ a0_5 [.int .i64 a0_5] from rfl) (Reps.one (show Kd.M (Kd.int .i64) _ _ _ a0_6 [.int .i64 a0_6] from rfl) (Reps.none _ _))))))))); intro v500103 w4 ho5 hb hg_ hnew_; clear hg_ hnew_; (first | rw [← Ny500102.out] at ho5 | (simp only [Int.reduceToNat] at ho5; rw [← Ny500102.out] at ho5)); have n0_ := Aside0.mk (Kd.R_lower ho5 (below_size (by repeat (first | (with_reducible first | exact HB.out | apply below_alloc | apply pw_below_drewN | apply below_drew1 | refine below_set ?_ GE500101.out) | exact HB.out)))); have n1_ := Aside0.mk (blk_below (g := gb500101) (o := .cells #[.int .i64 a0_0, .int .i64 a0_1, .int .i64 a0_2, .int .i64 a0_3, .int .i64 a0_4, .int .i64 a0_5, .int .i64 a0_6] 52 (0, 0)) (by (with_reducible repeat (first | refine blk_drewN ?_ _ | refine blk_drew ?_ | refine blk_alloc ?_ _)); exact BK500101.out) hb); have n2_ := Aside0.mk (below_step (by repeat (first | (with_reducible first | exact HB.out | apply below_alloc | apply pw_below_drewN | apply below_drew1 | refine below_set ?_ GE500101.out) | exact HB.out)) hb); clear BK500101; clear HB; have HO500104 := n0_; have BK500101 := n1_; have HB := n2_; clear n0_ n1_ n2_; clear hb ho5))
  go_loopg [4, 5] k (fun kq v4 v5 w' => ∃ (x4_1 : Int) (x5_1 : Int), v4 = .int .i64 x4_1 ∧ v5 = .int .i64 x5_1 ∧ Aside0 (larderref03_fits.l0 kq y500102 x4_1 x5_1 a0_0 a0_1 a0_2 a0_3 a0_4 a0_5 a0_6 = some r) ∧ Aside0 (kq ≤ k) ∧ Aside0 (Kd.R (Kd.int .i64) 3 w' w.heap.size (fun _ => True) v500103 y500102) ∧ Aside0 (w'.heap[gb500101]? = some (.cells #[.int .i64 a0_0, .int .i64 a0_1, .int .i64 a0_2, .int .i64 a0_3, .int .i64 a0_4, .int .i64 a0_5, .int .i64 a0_6] 52 (0, 0))) ∧ Aside0 (Below w.heap.size w w'))
  case atStart => exact ⟨(0), (0), (by first | rfl | (simp; done) | (simp [*]; done)), (by first | rfl | (simp; done) | (simp [*]; done)), H', ⟨Nat.le_refl _⟩, ⟨by (with_reducible repeat (first | apply Kd.R_alloc | apply Kd.R_drewN | apply Kd.R_drew)); exact HO500104.out⟩, ⟨by (with_reducible repeat (first | refine blk_drewN ?_ _ | refine blk_drew ?_ | refine blk_alloc ?_ _)); exact BK500101.out⟩, ⟨by repeat (first | (with_reducible first | exact HB.out | apply below_alloc | apply pw_below_drewN | apply below_drew1 | refine below_set ?_ GE500101.out) | exact HB.out)⟩⟩
  case round =>
    clear H'
    try clear p2
    try clear c5
    try clear hcz3_0
    try clear hcz3_1
    try clear hcz3_2
    try clear hcz3_3
    try clear hcz3_4
    try clear hcz3_5
    try clear hcz3_6
    try clear hfz3_0
    try clear hfz3_1
    try clear hfz3_2
    try clear hfz3_3
    try clear hfz3_4
    try clear hfz3_5
    try clear hfz3_6
    obtain ⟨x4_1, x5_1, rfl, rfl, HA, HK1, HO_3, BK500101, HB⟩ := hrel
    cases gk with
    | zero => exact absurd HA.out (by simp [larderref03_fits.l0])
    | succ k1 =>
      have H := HA.out
      clear HA
      simp only [larderref03_fits.l0] at H
      by_cases c6 : x5_1 < 7
      · rw [if_pos c6] at H
        have c6b0 : decide (x5_1 < 7) = true := decide_eq_true c6
        clear c6
        have HC7 := Aside0.mk H
        clear H
        go_upto_region 6 with (fail)
        go_cut [36] (fun v36 wc => ∃ (kq : Nat) (x36_6 : Bool), v36 = .bool x36_6 ∧ Aside0 (larderref03_fits.j1 kq y500102 x4_1 x5_1 x36_6 a0_0 a0_1 a0_2 a0_3 a0_4 a0_5 a0_6 = some r) ∧ Aside0 (kq ≤ k1) ∧ Aside0 (Kd.R (Kd.int .i64) 3 wc w.heap.size (fun _ => True) v500103 y500102) ∧ Aside0 (wc.heap[gb500101]? = some (.cells #[.int .i64 a0_0, .int .i64 a0_1, .int .i64 a0_2, .int .i64 a0_3, .int .i64 a0_4, .int .i64 a0_5, .int .i64 a0_6] 52 (0, 0))) ∧ Aside0 (Below w.heap.size w wc))
        case first =>
          have H := HC7.out
          clear HC7
          by_cases c8 : 0 ≤ x5_1
          · rw [if_pos c8] at H
            have c8b0 : decide (0 ≤ x5_1) = true := decide_eq_true c8
            clear c8
            (first | rw [c8b0] | (simp only [i64_w, i32_w]; rw [c8b0]) | skip)
            by_cases c9 : x5_1 < (y500102.length : Int)
            · rw [if_pos c9] at H
              have c9b0 : decide (x5_1 < (y500102.length : Int)) = true := decide_eq_true c9
              clear c9
              by_cases c10 : (rd y500102 x5_1) < 0
              · rw [if_pos c10] at H
                have c10b0 : decide ((rd y500102 x5_1) < 0) = true := decide_eq_true c10
                clear c10
                have H' := Aside0.mk H
                clear H
                obtain ⟨Ao11, co11, eo11⟩ := Kd.R_slice HO_3.out
                subst eo11
                have p500105 : 0 ≤ (x5_1 : Int) := of_decide_eq_true (by first | (with_reducible assumption) | assumption)
                have q500105 : x5_1 < (y500102.length : Int) := of_decide_eq_true (by first | (with_reducible assumption) | assumption)
                obtain ⟨ad500105, e500105, hx500105_0⟩ := Kd.at_int (Kd.R_reads' HO_3.out).2.2 x5_1 p500105 q500105
                cases e500105
                replace p500105 := eq_true p500105
                replace q500105 := eq_true q500105
                go_wp2
                go_meet
                case rel => exact ⟨_, (true), (by first | rfl | (simp; done) | (simp [*]; done)), H', ⟨by have := HK1.out; first | omega | exact Nat.le_refl _⟩, ⟨by (with_reducible repeat (first | apply Kd.R_alloc | apply Kd.R_drewN | apply Kd.R_drew)); exact HO_3.out⟩, ⟨by (with_reducible repeat (first | refine blk_drewN ?_ _ | refine blk_drew ?_ | refine blk_alloc ?_ _)); exact BK500101.out⟩, ⟨by repeat (first | (with_reducible first | exact HB.out | apply below_alloc | apply pw_below_drewN | apply below_drew1 | refine below_set ?_ GE500101.out) | exact HB.out)⟩⟩
              · rw [if_neg c10] at H
                have c10b0 : decide ((rd y500102 x5_1) < 0) = false := decide_eq_false c10
                clear c10
                have H' := Aside0.mk H
                clear H
                obtain ⟨Ao12, co12, eo12⟩ := Kd.R_slice HO_3.out
                subst eo12
                have p500105 : 0 ≤ (x5_1 : Int) := of_decide_eq_true (by first | (with_reducible assumption) | assumption)
                have q500105 : x5_1 < (y500102.length : Int) := of_decide_eq_true (by first | (with_reducible assumption) | assumption)
                obtain ⟨ad500105, e500105, hx500105_0⟩ := Kd.at_int (Kd.R_reads' HO_3.out).2.2 x5_1 p500105 q500105
                cases e500105
                replace p500105 := eq_true p500105
                replace q500105 := eq_true q500105
                have p500106 : 0 ≤ (x5_1 : Int) := of_decide_eq_true (by first | (with_reducible assumption) | assumption)
                have q500106 : x5_1 < (y500102.length : Int) := of_decide_eq_true (by first | (with_reducible assumption) | assumption)
                obtain ⟨ad500106, e500106, hx500106_0⟩ := Kd.at_int (Kd.R_reads' HO_3.out).2.2 x5_1 p500106 q500106
                obtain rfl : ad500105 = ad500106 := (by injection e500106)
                replace p500106 := eq_true p500106
                replace q500106 := eq_true q500106
                go_wp2
                go_meet
                case rel => exact ⟨_, (decide ((rd y500102 x5_1) > 999999999)), (by first | rfl | (simp; done) | (simp [*]; done)), H', ⟨by have := HK1.out; first | omega | exact Nat.le_refl _⟩, ⟨by (with_reducible repeat (first | apply Kd.R_alloc | apply Kd.R_drewN | apply Kd.R_drew)); exact HO_3.out⟩, ⟨by (with_reducible repeat (first | refine blk_drewN ?_ _ | refine blk_drew ?_ | refine blk_alloc ?_ _)); exact BK500101.out⟩, ⟨by repeat (first | (with_reducible first | exact HB.out | apply below_alloc | apply pw_below_drewN | apply below_drew1 | refine below_set ?_ GE500101.out) | exact HB.out)⟩⟩
            · rw [if_neg c9] at H
              exact absurd H (by simp)
          · rw [if_neg c8] at H
            exact absurd H (by simp)
        case rest =>
          clear HC7
          try clear c1
          try clear p2
          try clear c5
          try clear p5
          try clear q5
          try clear hx5
          try clear c6
          try clear c6b0
          try clear c8
          try clear c8b0
          try clear c9
          try clear c9b0
          try clear c10
          try clear c10b0
          try clear hcz3_0
          try clear hcz3_1
          try clear hcz3_2
          try clear hcz3_3
          try clear hcz3_4
          try clear hcz3_5
          try clear hcz3_6
          try clear hfz3_0
          try clear hfz3_1
          try clear hfz3_2
          try clear hfz3_3
          try clear hfz3_4
          try clear hfz3_5
          try clear hfz3_6
          try clear hx500105_0
          try clear hx500106_0
          try clear p2
          try clear p500105
          try clear p500106
          try clear q500105
          try clear q500106
          obtain ⟨kq, x36_6, rfl, HA, HJ6, HO_3, BK500101, HB⟩ := hcut
          cases kq with
          | zero => exact absurd HA.out (by simp [larderref03_fits.j1])
          | succ kj6 =>
            have H := HA.out
            clear HA
            simp only [larderref03_fits.j1] at H
            by_cases c13 : x36_6 = true
            · subst c13
              have H1 : (some false) = some r := by rw [if_pos rfl] at H; exact H
              clear H
              have H := H1
              clear H1
              obtain rfl := Option.some.inj H
              go_wp2
              go_ret
              exact ⟨by first | rfl | (simp [errW_none, errW_some] <;> rfl) | (simp [*, errW_none, errW_some] <;> rfl), by repeat (first | (with_reducible first | exact HB.out | apply below_alloc | apply pw_below_drewN | apply below_drew1 | refine below_set ?_ GE500101.out) | exact HB.out)⟩
            · replace c13 := Bool.eq_false_iff.mpr c13
              subst c13
              have H1 : (if x5_1 = 2 then (larderref03_fits.l0 kj6 y500102 x4_1 (wrap64 (x5_1 + 1)) a0_0 a0_1 a0_2 a0_3 a0_4 a0_5 a0_6) else (if 0 ≤ x5_1 then (if x5_1 < (y500102.length : Int) then (if (rd y500102 x5_1) > 0 then (larderref03_fits.l0 kj6 y500102 (wrap64 (x4_1 + 1)) (wrap64 (x5_1 + 1)) a0_0 a0_1 a0_2 a0_3 a0_4 a0_5 a0_6) else (larderref03_fits.l0 kj6 y500102 x4_1 (wrap64 (x5_1 + 1)) a0_0 a0_1 a0_2 a0_3 a0_4 a0_5 a0_6)) else (none)) else (none))) = some r := by rw [if_neg (show ¬ (false = true) by decide)] at H; exact H
              clear H
              have H := H1
              clear H1
              by_cases c14 : x5_1 = 2
              · rw [if_pos c14] at H
                have c14b0 : (x5_1 == 2) = true := beq_iff_eq.mpr c14
                have c14b1 : (x5_1 != 2) = false := bne_eq_false_iff_eq.mpr c14
                clear c14
                have H' := Aside0.mk H
                clear H
                go_wp2
                go_roundg kj6
                case measure => have := HK1.out; have := HJ6.out; omega
                case rel => exact ⟨(x4_1), (wrap64 (x5_1 + 1)), (by first | rfl | (simp; done) | (simp [*]; done)), (by first | rfl | (simp; done) | (simp [*]; done)), H', ⟨by have := HK1.out; have := HJ6.out; omega⟩, ⟨by (with_reducible repeat (first | apply Kd.R_alloc | apply Kd.R_drewN | apply Kd.R_drew)); exact HO_3.out⟩, ⟨by (with_reducible repeat (first | refine blk_drewN ?_ _ | refine blk_drew ?_ | refine blk_alloc ?_ _)); exact BK500101.out⟩, ⟨by repeat (first | (with_reducible first | exact HB.out | apply below_alloc | apply pw_below_drewN | apply below_drew1 | refine below_set ?_ GE500101.out) | exact HB.out)⟩⟩
              · rw [if_neg c14] at H
                have c14b0 : (x5_1 == 2) = false := beq_eq_false_iff_ne.mpr c14
                have c14b1 : (x5_1 != 2) = true := bne_iff_ne.mpr c14
                by_cases c15 : 0 ≤ x5_1
                · rw [if_pos c15] at H
                  have c15b0 : decide (0 ≤ x5_1) = true := decide_eq_true c15
                  clear c15
                  by_cases c16 : x5_1 < (y500102.length : Int)
                  · rw [if_pos c16] at H
                    have c16b0 : decide (x5_1 < (y500102.length : Int)) = true := decide_eq_true c16
                    clear c16
                    by_cases c17 : (rd y500102 x5_1) > 0
                    · rw [if_pos c17] at H
                      have c17b0 : decide (0 < (rd y500102 x5_1)) = true := decide_eq_true c17
                      clear c17
                      have H' := Aside0.mk H
                      clear H
                      obtain ⟨Ao18, co18, eo18⟩ := Kd.R_slice HO_3.out
                      subst eo18
                      have p500107 : 0 ≤ (x5_1 : Int) := of_decide_eq_true (by first | (with_reducible assumption) | assumption)
                      have q500107 : x5_1 < (y500102.length : Int) := of_decide_eq_true (by first | (with_reducible assumption) | assumption)
                      obtain ⟨ad500107, e500107, hx500107_0⟩ := Kd.at_int (Kd.R_reads' HO_3.out).2.2 x5_1 p500107 q500107
                      cases e500107
                      replace p500107 := eq_true p500107
                      replace q500107 := eq_true q500107
                      go_wp2
                      go_roundg kj6
                      case measure => have := HK1.out; have := HJ6.out; omega
                      case rel => exact ⟨(wrap64 (x4_1 + 1)), (wrap64 (x5_1 + 1)), (by first | rfl | (simp; done) | (simp [*]; done)), (by first | rfl | (simp; done) | (simp [*]; done)), H', ⟨by have := HK1.out; have := HJ6.out; omega⟩, ⟨by (with_reducible repeat (first | apply Kd.R_alloc | apply Kd.R_drewN | apply Kd.R_drew)); exact HO_3.out⟩, ⟨by (with_reducible repeat (first | refine blk_drewN ?_ _ | refine blk_drew ?_ | refine blk_alloc ?_ _)); exact BK500101.out⟩, ⟨by repeat (first | (with_reducible first | exact HB.out | apply below_alloc | apply pw_below_drewN | apply below_drew1 | refine below_set ?_ GE500101.out) | exact HB.out)⟩⟩
                    · rw [if_neg c17] at H
                      have c17b0 : decide (0 < (rd y500102 x5_1)) = false := decide_eq_false c17
                      clear c17
                      have H' := Aside0.mk H
                      clear H
                      obtain ⟨Ao19, co19, eo19⟩ := Kd.R_slice HO_3.out
                      subst eo19
                      have p500107 : 0 ≤ (x5_1 : Int) := of_decide_eq_true (by first | (with_reducible assumption) | assumption)
                      have q500107 : x5_1 < (y500102.length : Int) := of_decide_eq_true (by first | (with_reducible assumption) | assumption)
                      obtain ⟨ad500107, e500107, hx500107_0⟩ := Kd.at_int (Kd.R_reads' HO_3.out).2.2 x5_1 p500107 q500107
                      cases e500107
                      replace p500107 := eq_true p500107
                      replace q500107 := eq_true q500107
                      go_wp2
                      go_roundg kj6
                      case measure => have := HK1.out; have := HJ6.out; omega
                      case rel => exact ⟨(x4_1), (wrap64 (x5_1 + 1)), (by first | rfl | (simp; done) | (simp [*]; done)), (by first | rfl | (simp; done) | (simp [*]; done)), H', ⟨by have := HK1.out; have := HJ6.out; omega⟩, ⟨by (with_reducible repeat (first | apply Kd.R_alloc | apply Kd.R_drewN | apply Kd.R_drew)); exact HO_3.out⟩, ⟨by (with_reducible repeat (first | refine blk_drewN ?_ _ | refine blk_drew ?_ | refine blk_alloc ?_ _)); exact BK500101.out⟩, ⟨by repeat (first | (with_reducible first | exact HB.out | apply below_alloc | apply pw_below_drewN | apply below_drew1 | refine below_set ?_ GE500101.out) | exact HB.out)⟩⟩
                  · rw [if_neg c16] at H
                    exact absurd H (by simp)
                · rw [if_neg c15] at H
                  exact absurd H (by simp)
      · rw [if_neg c6] at H
        have c6b0 : decide (x5_1 < 7) = false := decide_eq_false c6
        clear c6
        by_cases c20 : a0_2 = 0
        · rw [if_pos c20] at H
          have c20b0 : (a0_2 == 0) = true := beq_iff_eq.mpr c20
          have c20b1 : (a0_2 != 0) = false := bne_eq_false_iff_eq.mpr c20
          clear c20
          obtain rfl := Option.some.inj H
          have hcz21_0 : wr.cell? ⟨gb500101, 0, none⟩ = some (.int .i64 a0_0) := (blk_cell BK500101.out 0).trans rfl
          have hcz21_1 : wr.cell? ⟨gb500101, 1, none⟩ = some (.int .i64 a0_1) := (blk_cell BK500101.out 1).trans rfl
          have hcz21_2 : wr.cell? ⟨gb500101, 2, none⟩ = some (.int .i64 a0_2) := (blk_cell BK500101.out 2).trans rfl
          have hcz21_3 : wr.cell? ⟨gb500101, 3, none⟩ = some (.int .i64 a0_3) := (blk_cell BK500101.out 3).trans rfl
          have hcz21_4 : wr.cell? ⟨gb500101, 4, none⟩ = some (.int .i64 a0_4) := (blk_cell BK500101.out 4).trans rfl
          have hcz21_5 : wr.cell? ⟨gb500101, 5, none⟩ = some (.int .i64 a0_5) := (blk_cell BK500101.out 5).trans rfl
          have hcz21_6 : wr.cell? ⟨gb500101, 6, none⟩ = some (.int .i64 a0_6) := (blk_cell BK500101.out 6).trans rfl
          have hfz21_0 := blk_frozen BK500101.out 0
          have hfz21_1 := blk_frozen BK500101.out 1
          have hfz21_2 := blk_frozen BK500101.out 2
          have hfz21_3 := blk_frozen BK500101.out 3
          have hfz21_4 := blk_frozen BK500101.out 4
          have hfz21_5 := blk_frozen BK500101.out 5
          have hfz21_6 := blk_frozen BK500101.out 6
          go_wp2
          go_ret
          exact ⟨by first | rfl | (simp [errW_none, errW_some] <;> rfl) | (simp [*, errW_none, errW_some] <;> rfl), by repeat (first | (with_reducible first | exact HB.out | apply below_alloc | apply pw_below_drewN | apply below_drew1 | refine below_set ?_ GE500101.out) | exact HB.out)⟩
        · rw [if_neg c20] at H
          have c20b0 : (a0_2 == 0) = false := beq_eq_false_iff_ne.mpr c20
          have c20b1 : (a0_2 != 0) = true := bne_iff_ne.mpr c20
          obtain rfl := Option.some.inj H
          have hcz22_0 : wr.cell? ⟨gb500101, 0, none⟩ = some (.int .i64 a0_0) := (blk_cell BK500101.out 0).trans rfl
          have hcz22_1 : wr.cell? ⟨gb500101, 1, none⟩ = some (.int .i64 a0_1) := (blk_cell BK500101.out 1).trans rfl
          have hcz22_2 : wr.cell? ⟨gb500101, 2, none⟩ = some (.int .i64 a0_2) := (blk_cell BK500101.out 2).trans rfl
          have hcz22_3 : wr.cell? ⟨gb500101, 3, none⟩ = some (.int .i64 a0_3) := (blk_cell BK500101.out 3).trans rfl
          have hcz22_4 : wr.cell? ⟨gb500101, 4, none⟩ = some (.int .i64 a0_4) := (blk_cell BK500101.out 4).trans rfl
          have hcz22_5 : wr.cell? ⟨gb500101, 5, none⟩ = some (.int .i64 a0_5) := (blk_cell BK500101.out 5).trans rfl
          have hcz22_6 : wr.cell? ⟨gb500101, 6, none⟩ = some (.int .i64 a0_6) := (blk_cell BK500101.out 6).trans rfl
          have hfz22_0 := blk_frozen BK500101.out 0
          have hfz22_1 := blk_frozen BK500101.out 1
          have hfz22_2 := blk_frozen BK500101.out 2
          have hfz22_3 := blk_frozen BK500101.out 3
          have hfz22_4 := blk_frozen BK500101.out 4
          have hfz22_5 := blk_frozen BK500101.out 5
          have hfz22_6 := blk_frozen BK500101.out 6
          go_wp2
          go_ret
          exact ⟨by first | rfl | (simp [errW_none, errW_some] <;> rfl) | (simp [*, errW_none, errW_some] <;> rfl), by repeat (first | (with_reducible first | exact HB.out | apply below_alloc | apply pw_below_drewN | apply below_drew1 | refine below_set ?_ GE500101.out) | exact HB.out)⟩

end Go.Proofs.YtofafljfabgpmaaDoor.GC
