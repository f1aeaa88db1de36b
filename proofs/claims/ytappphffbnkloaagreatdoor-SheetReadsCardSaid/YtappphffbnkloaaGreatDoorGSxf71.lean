-- written by a program (gp.py over the kit's print) for this claim
import Derived.Test.YtappphffbnkloaaGreatDoorGSx0
namespace Go.Proofs.YtappphffbnkloaaGreatDoor.GS
open Go.RowKit Go.Proofs.YtappphffbnkloaaGreatDoorW.PrintWords Go.Proofs.YtappphffbnkloaaGreatDoorW.PrintLast Go.Proofs.YtappphffbnkloaaGreatDoor.Ext
attribute [local go_sem] max2_int min2_int max_two min_two   -- for this text alone
set_option linter.unusedVariables false
set_option linter.unusedSimpArgs false

def larderref04_placed.l0 : Nat → ByteArray → Int → Int → Int → Int → Int → Int → Int → Option (Int × Int × Int × Int × Int)
  | 0, _, _, _, _, _, _, _, _ => none
  | k + 1, x0, x2, x8, x710103000, x710103001, x710103002, x710103003, x710103004 => if x8 < x2 then (if 0 ≤ x8 then (if x8 < (x0.size : Int) then (if (bt x0 x8) = 10 then (larderref04_placed.l0 k x0 x2 (wrap64 (x8 + 1)) x710103000 (wrap64 (x710103001 + 1)) 0 x710103003 x710103004) else (larderref04_placed.l0 k x0 x2 (wrap64 (x8 + 1)) x710103000 x710103001 (wrap64 (x710103002 + 1)) x710103003 x710103004)) else (none)) else (none)) else (some (x710103000, x710103001, x710103002, x710103003, x710103004))
def larderref04_placed.f (k : Nat) (a0 : ByteArray) (a1 : Int) (a2 : Int) : Option (Int × Int × Int × Int × Int) := larderref04_placed.l0 k a0 a2 0 a1 1 0 a2 0
theorem larderref04_placed.mono_l : ∀ k, (∀ y0 y1 y2 y3 y4 y5 y6 y7, LeO (larderref04_placed.l0 k y0 y1 y2 y3 y4 y5 y6 y7) (larderref04_placed.l0 (k + 1) y0 y1 y2 y3 y4 y5 y6 y7))
  | 0 => fun _ _ _ _ _ _ _ _ r h => by simp [larderref04_placed.l0] at h
  | k + 1 => by
    have ih0 := larderref04_placed.mono_l k
    · intro y0 y1 y2 y3 y4 y5 y6 y7
      unfold larderref04_placed.l0
      repeat' first
      | (with_reducible exact ih0 _ _ _ _ _ _ _ _)
      | (with_reducible exact LeO.refl _)
      | (with_reducible exact LeO.none _)
      | (with_reducible refine LeO.ite ?_ ?_)
      | (with_reducible refine LeO.bind ?_ (fun _ => ?_))
      | exact ih0 _ _ _ _ _ _ _ _
      | exact LeO.none _
      | refine LeO.ite ?_ ?_
      | refine LeO.bind ?_ (fun _ => ?_)
theorem larderref04_placed.mono : ∀ a0 a1 a2 k, LeO (larderref04_placed.f k a0 a1 a2) (larderref04_placed.f (k + 1) a0 a1 a2) := by
  intro a0 a1 a2 k
  have ih0 := larderref04_placed.mono_l k
  unfold larderref04_placed.f
  repeat' first
      | (with_reducible exact ih0 _ _ _ _ _ _ _ _)
      | (with_reducible exact LeO.refl _)
      | (with_reducible exact LeO.none _)
      | (with_reducible refine LeO.ite ?_ ?_)
      | (with_reducible refine LeO.bind ?_ (fun _ => ?_))
      | exact ih0 _ _ _ _ _ _ _ _
      | exact LeO.none _
      | refine LeO.ite ?_ ?_
      | refine LeO.bind ?_ (fun _ => ?_)
set_option maxHeartbeats 8000000 in
set_option maxRecDepth 100000 in
theorem larderref04_placed.calls (k : Nat) (a0 : ByteArray) (a1 : Int) (a2 : Int) (r1 : Int) (r2 : Int) (r3 : Int) (r4 : Int) (r5 : Int) (w : World) (h : larderref04_placed.f k a0 a1 a2 = some (r1, r2, r3, r4, r5)) :
    Calls Tryz.prog 71 #[.string a0, .int .i64 a1, .int .i64 a2] w fun e w' => e = .returned (.agg #[.int .i64 r1, .int .i64 r2, .int .i64 r3, .int .i64 r4, .int .i64 r5]) ∧ Below w.heap.size w w' := by
  have hu46 := Tryz.underlying46
  have HB := Aside0.mk (Below.refl w.heap.size w)
  have H : (larderref04_placed.l0 k a0 a2 0 a1 1 0 a2 0) = some (r1, r2, r3, r4, r5) := h
  clear h
  have H' := Aside0.mk H
  clear H
  go_enter Tryz.func71, Tryz.ntmps71
  go_wp2_with (first | ((with_reducible refine gate_dst (N := 6) rfl ?_); refine box_event ?hg (N := 6) ?hd (cs := #[.int .i64 0, .int .i64 0, .int .i64 0, .int .i64 0, .int .i64 0]) (t := 46) ?hr ?_; (case hd => rfl); (case hg => rfl); (case hr => first | (go_simp; done) | (go_simp; rfl)); intro gb710101 hg w4 hbox hb; have n0_ := Aside0.mk (below_step (by repeat (first | (with_reducible first | exact HB.out | apply below_alloc | apply pw_below_drewN | apply below_drew1) | exact HB.out)) hb); have n1_ := Aside0.mk (hbox); have n2_ := Aside0.mk ((by rw [hg]; exact (below_size (by repeat (first | (with_reducible first | exact HB.out | apply below_alloc | apply pw_below_drewN | apply below_drew1) | exact HB.out))) : w.heap.size ≤ gb710101)); have n3_ := Aside0.mk ((by rw [hg]; exact (below_size (by repeat (first | (with_reducible first | exact HB.out | apply below_alloc | apply pw_below_drewN | apply below_drew1) | exact HB.out))) : w.heap.size ≤ gb710101)); clear HB; have HB := n0_; have BK710101 := n1_; have GW710101 := n2_; have GE710101 := n3_; clear n0_ n1_ n2_ n3_; clear hb hbox hg) | ((with_reducible refine gate_dst (N := 7) rfl ?_); refine box_event ?hg (N := 7) ?hd (cs := #[.int .i64 0, .int .i64 0, .int .i64 0, .int .i64 0, .int .i64 0]) (t := 46) ?hr ?_; (case hd => rfl); (case hg => rfl); (case hr => first | (go_simp; done) | (go_simp; rfl)); intro gb710102 hg w5 hbox hb; have n0_ := Aside0.mk (blk_below (g := gb710101) (o := .cells #[.int .i64 0, .int .i64 0, .int .i64 0, .int .i64 0, .int .i64 0] 46 (0, 0)) (by (with_reducible repeat (first | refine blk_drewN ?_ _ | refine blk_drew ?_ | refine blk_alloc ?_ _)); exact BK710101.out) hb); have n1_ := Aside0.mk (below_step (by repeat (first | (with_reducible first | exact HB.out | apply below_alloc | apply pw_below_drewN | apply below_drew1 | refine below_set ?_ GE710101.out) | exact HB.out)) hb); have n2_ := Aside0.mk (hbox); have n3_ := Aside0.mk ((by rw [hg]; exact (below_size (by repeat (first | (with_reducible first | exact HB.out | apply below_alloc | apply pw_below_drewN | apply below_drew1 | refine below_set ?_ GE710101.out) | exact HB.out))) : w.heap.size ≤ gb710102)); have n4_ := Aside0.mk ((by rw [hg]; exact (below_size (by repeat (first | (with_reducible first | exact HB.out | apply below_alloc | apply pw_below_drewN | apply below_drew1 | refine below_set ?_ GE710101.out) | exact HB.out))) : w.heap.size ≤ gb710102)); have n5_ := Aside0.mk ((by rw [hg]; exact Nat.ne_of_lt (blk_lt (g := gb710101) (o := .cells #[.int .i64 0, .int .i64 0, .int .i64 0, .int .i64 0, .int .i64 0] 46 (0, 0)) (by (with_reducible repeat (first | refine blk_drewN ?_ _ | refine blk_drew ?_ | refine blk_alloc ?_ _)); exact BK710101.out)) : gb710101 ≠ gb710102)); have n6_ := Aside0.mk ((by rw [hg]; exact Nat.ne_of_gt (blk_lt (g := gb710101) (o := .cells #[.int .i64 0, .int .i64 0, .int .i64 0, .int .i64 0, .int .i64 0] 46 (0, 0)) (by (with_reducible repeat (first | refine blk_drewN ?_ _ | refine blk_drew ?_ | refine blk_alloc ?_ _)); exact BK710101.out)) : gb710102 ≠ gb710101)); clear BK710101; clear HB; have BK710101 := n0_; have HB := n1_; have BK710102 := n2_; have GW710102 := n3_; have GE710102 := n4_; have NB710101_710102 := n5_; have NB710102_710101 := n6_; clear n0_ n1_ n2_ n3_ n4_ n5_ n6_; clear hb hbox hg; have hnb6 := NB710102_710101.out; have hnc6 := NB710101_710102.out; have hcz7_0 : w5.cell? ⟨gb710102, 0, none⟩ = some (.int .i64 0) := (blk_cell BK710102.out 0).trans rfl; have hcz7_1 : w5.cell? ⟨gb710102, 1, none⟩ = some (.int .i64 0) := (blk_cell BK710102.out 1).trans rfl; have hcz7_2 : w5.cell? ⟨gb710102, 2, none⟩ = some (.int .i64 0) := (blk_cell BK710102.out 2).trans rfl; have hcz7_3 : w5.cell? ⟨gb710102, 3, none⟩ = some (.int .i64 0) := (blk_cell BK710102.out 3).trans rfl; have hcz7_4 : w5.cell? ⟨gb710102, 4, none⟩ = some (.int .i64 0) := (blk_cell BK710102.out 4).trans rfl; have hfz7_0 := blk_frozen BK710102.out 0; have hfz7_1 := blk_frozen BK710102.out 1; have hfz7_2 := blk_frozen BK710102.out 2; have hfz7_3 := blk_frozen BK710102.out 3; have hfz7_4 := blk_frozen BK710102.out 4))
  go_loopg [8] k (fun kq v8 w' => ∃ (x8_1 : Int) (x710103001_1 : Int) (x710103002_1 : Int), v8 = .int .i64 x8_1 ∧ Aside0 (larderref04_placed.l0 kq a0 a2 x8_1 a1 x710103001_1 x710103002_1 a2 0 = some (r1, r2, r3, r4, r5)) ∧ Aside0 (kq ≤ k) ∧ Aside0 (w'.heap[gb710101]? = some (.cells #[.int .i64 0, .int .i64 0, .int .i64 0, .int .i64 0, .int .i64 0] 46 (0, 0))) ∧ Aside0 (w'.heap[gb710102]? = some (.cells #[.int .i64 a1, .int .i64 x710103001_1, .int .i64 x710103002_1, .int .i64 a2, .int .i64 0] 46 (0, 0))) ∧ Aside0 (Below w.heap.size w w'))
  case atStart => exact ⟨(0), (1), (0), (by first | rfl | (simp; done) | (simp [*]; done)), H', ⟨Nat.le_refl _⟩, ⟨by (with_reducible repeat (first | refine blk_drewN ?_ _ | refine blk_drew ?_ | refine blk_alloc ?_ _)); refine blk_far ?_ NB710101_710102.out _; (with_reducible repeat (first | refine blk_drewN ?_ _ | refine blk_drew ?_ | refine blk_alloc ?_ _)); refine blk_far ?_ NB710101_710102.out _; (with_reducible repeat (first | refine blk_drewN ?_ _ | refine blk_drew ?_ | refine blk_alloc ?_ _)); refine blk_far ?_ NB710101_710102.out _; (with_reducible repeat (first | refine blk_drewN ?_ _ | refine blk_drew ?_ | refine blk_alloc ?_ _)); refine blk_far ?_ NB710101_710102.out _; (with_reducible repeat (first | refine blk_drewN ?_ _ | refine blk_drew ?_ | refine blk_alloc ?_ _)); refine blk_far ?_ NB710101_710102.out _; (with_reducible repeat (first | refine blk_drewN ?_ _ | refine blk_drew ?_ | refine blk_alloc ?_ _)); exact BK710101.out⟩, ⟨by (with_reducible repeat (first | refine blk_drewN ?_ _ | refine blk_drew ?_ | refine blk_alloc ?_ _)); refine blk_put (cs := #[.int .i64 a1, .int .i64 1, .int .i64 0, .int .i64 a2, .int .i64 0]) ?_ 4 _ rfl; (with_reducible repeat (first | refine blk_drewN ?_ _ | refine blk_drew ?_ | refine blk_alloc ?_ _)); refine blk_put (cs := #[.int .i64 a1, .int .i64 1, .int .i64 0, .int .i64 0, .int .i64 0]) ?_ 3 _ rfl; (with_reducible repeat (first | refine blk_drewN ?_ _ | refine blk_drew ?_ | refine blk_alloc ?_ _)); refine blk_put (cs := #[.int .i64 a1, .int .i64 1, .int .i64 0, .int .i64 0, .int .i64 0]) ?_ 2 _ rfl; (with_reducible repeat (first | refine blk_drewN ?_ _ | refine blk_drew ?_ | refine blk_alloc ?_ _)); refine blk_put (cs := #[.int .i64 a1, .int .i64 0, .int .i64 0, .int .i64 0, .int .i64 0]) ?_ 1 _ rfl; (with_reducible repeat (first | refine blk_drewN ?_ _ | refine blk_drew ?_ | refine blk_alloc ?_ _)); refine blk_put (cs := #[.int .i64 0, .int .i64 0, .int .i64 0, .int .i64 0, .int .i64 0]) ?_ 0 _ rfl; (with_reducible repeat (first | refine blk_drewN ?_ _ | refine blk_drew ?_ | refine blk_alloc ?_ _)); exact BK710102.out⟩, ⟨by repeat (first | (with_reducible first | exact HB.out | apply below_alloc | apply pw_below_drewN | apply below_drew1 | refine below_set ?_ GE710101.out | refine below_set ?_ GE710102.out) | exact HB.out)⟩⟩
  case round =>
    clear H'
    try clear p2
    try clear c6
    try clear c7
    try clear hcz7_0
    try clear hcz7_1
    try clear hcz7_2
    try clear hcz7_3
    try clear hcz7_4
    try clear hfz7_0
    try clear hfz7_1
    try clear hfz7_2
    try clear hfz7_3
    try clear hfz7_4
    obtain ⟨x8_1, x710103001_1, x710103002_1, rfl, HA, HK1, BK710101, BK710102, HB⟩ := hrel
    cases gk with
    | zero => exact absurd HA.out (by simp [larderref04_placed.l0])
    | succ k1 =>
      have H := HA.out
      clear HA
      simp only [larderref04_placed.l0] at H
      by_cases c8 : x8_1 < a2
      · rw [if_pos c8] at H
        have c8b0 : decide (x8_1 < a2) = true := decide_eq_true c8
        clear c8
        by_cases c9 : 0 ≤ x8_1
        · rw [if_pos c9] at H
          have c9b0 : decide (0 ≤ x8_1) = true := decide_eq_true c9
          clear c9
          by_cases c10 : x8_1 < (a0.size : Int)
          · rw [if_pos c10] at H
            have c10b0 : decide (x8_1 < (a0.size : Int)) = true := decide_eq_true c10
            clear c10
            by_cases c12 : (bt a0 x8_1) = 10
            · rw [if_pos c12] at H
              have c12b0 : ((bt a0 x8_1) == 10) = true := beq_iff_eq.mpr c12
              have c12b1 : ((bt a0 x8_1) != 10) = false := bne_eq_false_iff_eq.mpr c12
              clear c12
              have H' := Aside0.mk H
              clear H
              have hnb13 := NB710102_710101.out
              have hnc13 := NB710101_710102.out
              have hcz14_0 : wr.cell? ⟨gb710102, 0, none⟩ = some (.int .i64 a1) := (blk_cell BK710102.out 0).trans rfl
              have hcz14_1 : wr.cell? ⟨gb710102, 1, none⟩ = some (.int .i64 x710103001_1) := (blk_cell BK710102.out 1).trans rfl
              have hcz14_2 : wr.cell? ⟨gb710102, 2, none⟩ = some (.int .i64 x710103002_1) := (blk_cell BK710102.out 2).trans rfl
              have hcz14_3 : wr.cell? ⟨gb710102, 3, none⟩ = some (.int .i64 a2) := (blk_cell BK710102.out 3).trans rfl
              have hcz14_4 : wr.cell? ⟨gb710102, 4, none⟩ = some (.int .i64 0) := (blk_cell BK710102.out 4).trans rfl
              have hfz14_0 := blk_frozen BK710102.out 0
              have hfz14_1 := blk_frozen BK710102.out 1
              have hfz14_2 := blk_frozen BK710102.out 2
              have hfz14_3 := blk_frozen BK710102.out 3
              have hfz14_4 := blk_frozen BK710102.out 4
              have p11 : 0 ≤ (x8_1 : Int) := of_decide_eq_true (by first | (with_reducible assumption) | assumption)
              have q11 : x8_1 < (a0.size : Int) := of_decide_eq_true (by first | (with_reducible assumption) | assumption)
              have hx11 := bt_at a0 x8_1
              replace p11 := eq_true p11
              replace q11 := eq_true q11
              go_wp2
              go_roundg k1
              case measure => have := HK1.out; omega
              case rel => exact ⟨(wrap64 (x8_1 + 1)), (wrap64 (x710103001_1 + 1)), (0), (by first | rfl | (simp; done) | (simp [*]; done)), H', ⟨by have := HK1.out; omega⟩, ⟨by (with_reducible repeat (first | refine blk_drewN ?_ _ | refine blk_drew ?_ | refine blk_alloc ?_ _)); refine blk_far ?_ NB710101_710102.out _; (with_reducible repeat (first | refine blk_drewN ?_ _ | refine blk_drew ?_ | refine blk_alloc ?_ _)); refine blk_far ?_ NB710101_710102.out _; (with_reducible repeat (first | refine blk_drewN ?_ _ | refine blk_drew ?_ | refine blk_alloc ?_ _)); refine blk_far ?_ NB710101_710102.out _; (with_reducible repeat (first | refine blk_drewN ?_ _ | refine blk_drew ?_ | refine blk_alloc ?_ _)); exact BK710101.out⟩, ⟨by (with_reducible repeat (first | refine blk_drewN ?_ _ | refine blk_drew ?_ | refine blk_alloc ?_ _)); refine blk_put (cs := #[.int .i64 a1, .int .i64 (wrap64 (x710103001_1 + 1)), .int .i64 (wrap64 (x710103002_1 + 1)), .int .i64 a2, .int .i64 0]) ?_ 2 _ rfl; (with_reducible repeat (first | refine blk_drewN ?_ _ | refine blk_drew ?_ | refine blk_alloc ?_ _)); refine blk_put (cs := #[.int .i64 a1, .int .i64 x710103001_1, .int .i64 (wrap64 (x710103002_1 + 1)), .int .i64 a2, .int .i64 0]) ?_ 1 _ rfl; (with_reducible repeat (first | refine blk_drewN ?_ _ | refine blk_drew ?_ | refine blk_alloc ?_ _)); refine blk_put (cs := #[.int .i64 a1, .int .i64 x710103001_1, .int .i64 x710103002_1, .int .i64 a2, .int .i64 0]) ?_ 2 _ rfl; (with_reducible repeat (first | refine blk_drewN ?_ _ | refine blk_drew ?_ | refine blk_alloc ?_ _)); exact BK710102.out⟩, ⟨by repeat (first | (with_reducible first | exact HB.out | apply below_alloc | apply pw_below_drewN | apply below_drew1 | refine below_set ?_ GE710101.out | refine below_set ?_ GE710102.out) | exact HB.out)⟩⟩
            · rw [if_neg c12] at H
              have c12b0 : ((bt a0 x8_1) == 10) = false := beq_eq_false_iff_ne.mpr c12
              have c12b1 : ((bt a0 x8_1) != 10) = true := bne_iff_ne.mpr c12
              have H' := Aside0.mk H
              clear H
              have hnb15 := NB710102_710101.out
              have hnc15 := NB710101_710102.out
              have hcz16_0 : wr.cell? ⟨gb710102, 0, none⟩ = some (.int .i64 a1) := (blk_cell BK710102.out 0).trans rfl
              have hcz16_1 : wr.cell? ⟨gb710102, 1, none⟩ = some (.int .i64 x710103001_1) := (blk_cell BK710102.out 1).trans rfl
              have hcz16_2 : wr.cell? ⟨gb710102, 2, none⟩ = some (.int .i64 x710103002_1) := (blk_cell BK710102.out 2).trans rfl
              have hcz16_3 : wr.cell? ⟨gb710102, 3, none⟩ = some (.int .i64 a2) := (blk_cell BK710102.out 3).trans rfl
              have hcz16_4 : wr.cell? ⟨gb710102, 4, none⟩ = some (.int .i64 0) := (blk_cell BK710102.out 4).trans rfl
              have hfz16_0 := blk_frozen BK710102.out 0
              have hfz16_1 := blk_frozen BK710102.out 1
              have hfz16_2 := blk_frozen BK710102.out 2
              have hfz16_3 := blk_frozen BK710102.out 3
              have hfz16_4 := blk_frozen BK710102.out 4
              have p11 : 0 ≤ (x8_1 : Int) := of_decide_eq_true (by first | (with_reducible assumption) | assumption)
              have q11 : x8_1 < (a0.size : Int) := of_decide_eq_true (by first | (with_reducible assumption) | assumption)
              have hx11 := bt_at a0 x8_1
              replace p11 := eq_true p11
              replace q11 := eq_true q11
              go_wp2
              go_roundg k1
              case measure => have := HK1.out; omega
              case rel => exact ⟨(wrap64 (x8_1 + 1)), (x710103001_1), (wrap64 (x710103002_1 + 1)), (by first | rfl | (simp; done) | (simp [*]; done)), H', ⟨by have := HK1.out; omega⟩, ⟨by (with_reducible repeat (first | refine blk_drewN ?_ _ | refine blk_drew ?_ | refine blk_alloc ?_ _)); refine blk_far ?_ NB710101_710102.out _; (with_reducible repeat (first | refine blk_drewN ?_ _ | refine blk_drew ?_ | refine blk_alloc ?_ _)); exact BK710101.out⟩, ⟨by (with_reducible repeat (first | refine blk_drewN ?_ _ | refine blk_drew ?_ | refine blk_alloc ?_ _)); refine blk_put (cs := #[.int .i64 a1, .int .i64 x710103001_1, .int .i64 x710103002_1, .int .i64 a2, .int .i64 0]) ?_ 2 _ rfl; (with_reducible repeat (first | refine blk_drewN ?_ _ | refine blk_drew ?_ | refine blk_alloc ?_ _)); exact BK710102.out⟩, ⟨by repeat (first | (with_reducible first | exact HB.out | apply below_alloc | apply pw_below_drewN | apply below_drew1 | refine below_set ?_ GE710101.out | refine below_set ?_ GE710102.out) | exact HB.out)⟩⟩
          · rw [if_neg c10] at H
            exact absurd H (by simp)
        · rw [if_neg c9] at H
          exact absurd H (by simp)
      · rw [if_neg c8] at H
        have c8b0 : decide (x8_1 < a2) = false := decide_eq_false c8
        clear c8
        simp only [Option.some.injEq, Prod.mk.injEq] at H
        obtain ⟨rfl, rfl, rfl, rfl, rfl⟩ := H
        have hnb17 := NB710102_710101.out
        have hnc17 := NB710101_710102.out
        have hcz18_0 : wr.cell? ⟨gb710102, 0, none⟩ = some (.int .i64 a1) := (blk_cell BK710102.out 0).trans rfl
        have hcz18_1 : wr.cell? ⟨gb710102, 1, none⟩ = some (.int .i64 x710103001_1) := (blk_cell BK710102.out 1).trans rfl
        have hcz18_2 : wr.cell? ⟨gb710102, 2, none⟩ = some (.int .i64 x710103002_1) := (blk_cell BK710102.out 2).trans rfl
        have hcz18_3 : wr.cell? ⟨gb710102, 3, none⟩ = some (.int .i64 a2) := (blk_cell BK710102.out 3).trans rfl
        have hcz18_4 : wr.cell? ⟨gb710102, 4, none⟩ = some (.int .i64 0) := (blk_cell BK710102.out 4).trans rfl
        have hfz18_0 := blk_frozen BK710102.out 0
        have hfz18_1 := blk_frozen BK710102.out 1
        have hfz18_2 := blk_frozen BK710102.out 2
        have hfz18_3 := blk_frozen BK710102.out 3
        have hfz18_4 := blk_frozen BK710102.out 4
        have hcz19_0 : wr.cell? ⟨gb710101, 0, none⟩ = some (.int .i64 0) := (blk_cell BK710101.out 0).trans rfl
        have hcz19_1 : wr.cell? ⟨gb710101, 1, none⟩ = some (.int .i64 0) := (blk_cell BK710101.out 1).trans rfl
        have hcz19_2 : wr.cell? ⟨gb710101, 2, none⟩ = some (.int .i64 0) := (blk_cell BK710101.out 2).trans rfl
        have hcz19_3 : wr.cell? ⟨gb710101, 3, none⟩ = some (.int .i64 0) := (blk_cell BK710101.out 3).trans rfl
        have hcz19_4 : wr.cell? ⟨gb710101, 4, none⟩ = some (.int .i64 0) := (blk_cell BK710101.out 4).trans rfl
        have hfz19_0 := blk_frozen BK710101.out 0
        have hfz19_1 := blk_frozen BK710101.out 1
        have hfz19_2 := blk_frozen BK710101.out 2
        have hfz19_3 := blk_frozen BK710101.out 3
        have hfz19_4 := blk_frozen BK710101.out 4
        go_wp2
        refine bodyPost_ret (results_cell_row rfl _ _ gb710101 46 #[.int .i64 a1, .int .i64 x710103001_1, .int .i64 x710103002_1, .int .i64 a2, .int .i64 0] (0, 0) _ rfl (by (with_reducible repeat (first | refine blk_drewN ?_ _ | refine blk_drew ?_ | refine blk_alloc ?_ _)); refine blk_put (cs := #[.int .i64 a1, .int .i64 x710103001_1, .int .i64 x710103002_1, .int .i64 a2, .int .i64 0]) ?_ 4 _ rfl; (with_reducible repeat (first | refine blk_drewN ?_ _ | refine blk_drew ?_ | refine blk_alloc ?_ _)); refine blk_put (cs := #[.int .i64 a1, .int .i64 x710103001_1, .int .i64 x710103002_1, .int .i64 0, .int .i64 0]) ?_ 3 _ rfl; (with_reducible repeat (first | refine blk_drewN ?_ _ | refine blk_drew ?_ | refine blk_alloc ?_ _)); refine blk_put (cs := #[.int .i64 a1, .int .i64 x710103001_1, .int .i64 0, .int .i64 0, .int .i64 0]) ?_ 2 _ rfl; (with_reducible repeat (first | refine blk_drewN ?_ _ | refine blk_drew ?_ | refine blk_alloc ?_ _)); refine blk_put (cs := #[.int .i64 a1, .int .i64 0, .int .i64 0, .int .i64 0, .int .i64 0]) ?_ 1 _ rfl; (with_reducible repeat (first | refine blk_drewN ?_ _ | refine blk_drew ?_ | refine blk_alloc ?_ _)); refine blk_put (cs := #[.int .i64 0, .int .i64 0, .int .i64 0, .int .i64 0, .int .i64 0]) ?_ 0 _ rfl; (with_reducible repeat (first | refine blk_drewN ?_ _ | refine blk_drew ?_ | refine blk_alloc ?_ _)); exact BK710101.out) Tryz.underlying46 rfl (by kernel_rfl)) rfl ?_
        exact ⟨by first | rfl | (simp [errW_none, errW_some] <;> rfl) | (simp [*, errW_none, errW_some] <;> rfl), by repeat (first | (with_reducible first | exact HB.out | apply below_alloc | apply pw_below_drewN | apply below_drew1 | refine below_set ?_ GE710101.out | refine below_set ?_ GE710102.out) | exact HB.out)⟩

end Go.Proofs.YtappphffbnkloaaGreatDoor.GS
