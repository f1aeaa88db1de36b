-- written by a program (gp.py over the kit's print) for this claim
import Derived.Test.YtappphffbnkloaaGreatDoorGSx0
import Derived.Test.YtappphffbnkloaaGreatDoorGSxf96
import Derived.Test.YtappphffbnkloaaGreatDoorGSxf71
namespace Go.Proofs.YtappphffbnkloaaGreatDoor.GS
open Go.RowKit Go.Proofs.YtappphffbnkloaaGreatDoorW.PrintWords Go.Proofs.YtappphffbnkloaaGreatDoorW.PrintLast Go.Proofs.YtappphffbnkloaaGreatDoor.Ext
attribute [local go_sem] max2_int min2_int max_two min_two   -- for this text alone
set_option linter.unusedVariables false
set_option linter.unusedSimpArgs false

mutual
def larderref04_quoted.l0 : Nat → ByteArray → Int → List Int → Int → Option (ByteArray × Int × Int × Int × Int × Int × Int)
  | 0, _, _, _, _ => none
  | k + 1, x0, x1, x7, x8 => if x8 < (x0.size : Int) then (if 0 ≤ x8 then (if (bt x0 x8) = 34 then (if (wrap64 (x8 + 1)) ≥ (x0.size : Int) then (some (strOfNums x7, wrap64 (x8 + 1), 0, 0, 0, 0, 0)) else (if 0 ≤ (wrap64 (x8 + 1)) then (if (wrap64 (x8 + 1)) < (x0.size : Int) then (if (bt x0 (wrap64 (x8 + 1))) = 34 then (larderref04_quoted.j1 k x0 x1 x7 (wrap64 (x8 + 1))) else (some (strOfNums x7, wrap64 (x8 + 1), 0, 0, 0, 0, 0))) else (none)) else (none))) else (larderref04_quoted.j1 k x0 x1 x7 x8)) else (none)) else ((larderref04_placed.f k x0 1 x1).bind fun bt1140102 => (some ((⟨#[]⟩ : ByteArray), 0, bt1140102.1, bt1140102.2.1, bt1140102.2.2.1, bt1140102.2.2.2.1, bt1140102.2.2.2.2)))
def larderref04_quoted.j1 : Nat → ByteArray → Int → List Int → Int → Option (ByteArray × Int × Int × Int × Int × Int × Int)
  | 0, _, _, _, _ => none
  | k + 1, x0, x1, x7, x8 => if 0 ≤ x8 then (if x8 < (x0.size : Int) then ((larderref04_may.f (bt x0 x8)).bind fun t1140107 => (if t1140107 = true then (if (x7.length : Int) = 4096 then ((larderref04_placed.f k x0 5 x8).bind fun bt1140108 => (some ((⟨#[]⟩ : ByteArray), 0, bt1140108.1, bt1140108.2.1, bt1140108.2.2.1, bt1140108.2.2.2.1, bt1140108.2.2.2.2))) else (if x7.length < 140737488355328 then (larderref04_quoted.l0 k x0 x1 (x7 ++ [bt x0 x8]) (wrap64 (x8 + 1))) else (none))) else ((larderref04_placed.f k x0 4 x8).bind fun bt1140116 => (some ((⟨#[]⟩ : ByteArray), 0, bt1140116.1, bt1140116.2.1, bt1140116.2.2.1, bt1140116.2.2.2.1, bt1140116.2.2.2.2))))) else (none)) else (none)
end
def larderref04_quoted.f (k : Nat) (a0 : ByteArray) (a1 : Int) : Option (ByteArray × Int × Int × Int × Int × Int × Int) := larderref04_quoted.l0 k a0 a1 ([] : List Int) (wrap64 (a1 + 1))
theorem larderref04_quoted.mono_l : ∀ k, (∀ y0 y1 y2 y3, LeO (larderref04_quoted.l0 k y0 y1 y2 y3) (larderref04_quoted.l0 (k + 1) y0 y1 y2 y3)) ∧ (∀ y0 y1 y2 y3, LeO (larderref04_quoted.j1 k y0 y1 y2 y3) (larderref04_quoted.j1 (k + 1) y0 y1 y2 y3))
  | 0 => ⟨fun _ _ _ _ r h => by simp [larderref04_quoted.l0] at h, fun _ _ _ _ r h => by simp [larderref04_quoted.j1] at h⟩
  | k + 1 => by
    obtain ⟨ih0, ih1⟩ := larderref04_quoted.mono_l k
    refine ⟨?_, ?_⟩
    · intro y0 y1 y2 y3
      unfold larderref04_quoted.l0
      repeat' first
      | (with_reducible exact ih0 _ _ _ _)
      | (with_reducible exact ih1 _ _ _ _)
      | (with_reducible exact larderref04_placed.mono _ _ _ _)
      | (with_reducible exact LeO.refl _)
      | (with_reducible exact LeO.none _)
      | (with_reducible refine LeO.ite ?_ ?_)
      | (with_reducible refine LeO.bind ?_ (fun _ => ?_))
      | exact ih0 _ _ _ _
      | exact ih1 _ _ _ _
      | exact larderref04_placed.mono _ _ _ _
      | exact LeO.none _
      | refine LeO.ite ?_ ?_
      | refine LeO.bind ?_ (fun _ => ?_)
    · intro y0 y1 y2 y3
      unfold larderref04_quoted.j1
      repeat' first
      | (with_reducible exact ih0 _ _ _ _)
      | (with_reducible exact ih1 _ _ _ _)
      | (with_reducible exact larderref04_placed.mono _ _ _ _)
      | (with_reducible exact LeO.refl _)
      | (with_reducible exact LeO.none _)
      | (with_reducible refine LeO.ite ?_ ?_)
      | (with_reducible refine LeO.bind ?_ (fun _ => ?_))
      | exact ih0 _ _ _ _
      | exact ih1 _ _ _ _
      | exact larderref04_placed.mono _ _ _ _
      | exact LeO.none _
      | refine LeO.ite ?_ ?_
      | refine LeO.bind ?_ (fun _ => ?_)
theorem larderref04_quoted.mono : ∀ a0 a1 k, LeO (larderref04_quoted.f k a0 a1) (larderref04_quoted.f (k + 1) a0 a1) := by
  intro a0 a1 k
  obtain ⟨ih0, ih1⟩ := larderref04_quoted.mono_l k
  unfold larderref04_quoted.f
  repeat' first
      | (with_reducible exact ih0 _ _ _ _)
      | (with_reducible exact ih1 _ _ _ _)
      | (with_reducible exact larderref04_placed.mono _ _ _ _)
      | (with_reducible exact LeO.refl _)
      | (with_reducible exact LeO.none _)
      | (with_reducible refine LeO.ite ?_ ?_)
      | (with_reducible refine LeO.bind ?_ (fun _ => ?_))
      | exact ih0 _ _ _ _
      | exact ih1 _ _ _ _
      | exact larderref04_placed.mono _ _ _ _
      | exact LeO.none _
      | refine LeO.ite ?_ ?_
      | refine LeO.bind ?_ (fun _ => ?_)
set_option maxHeartbeats 8000000 in
set_option maxRecDepth 100000 in
theorem larderref04_quoted.calls (k : Nat) (a0 : ByteArray) (a1 : Int) (r1 : ByteArray) (r2 : Int) (r3 : Int) (r4 : Int) (r5 : Int) (r6 : Int) (r7 : Int) (w : World) (h : larderref04_quoted.f k a0 a1 = some (r1, r2, r3, r4, r5, r6, r7)) :
    Calls Tryz.prog 114 #[.string a0, .int .i64 a1] w fun e w' => e = .returned (.tuple #[.string r1, .int .i64 r2, .agg #[.int .i64 r3, .int .i64 r4, .int .i64 r5, .int .i64 r6, .int .i64 r7]]) ∧ Below w.heap.size w w' := by
  have hu46 := Tryz.underlying46
  have HB := Aside0.mk (Below.refl w.heap.size w)
  have H : (larderref04_quoted.l0 k a0 a1 ([] : List Int) (wrap64 (a1 + 1))) = some (r1, r2, r3, r4, r5, r6, r7) := h
  clear h
  have H' := Aside0.mk H
  clear H
  go_enter Tryz.func114, Tryz.ntmps114
  go_wp2_with (first | ((with_reducible refine gate_dst (N := 6) rfl ?_); refine box_event ?hg (N := 6) ?hd (cs := #[.int .i64 0, .int .i64 0, .int .i64 0, .int .i64 0, .int .i64 0]) (t := 46) ?hr ?_; (case hd => rfl); (case hg => rfl); (case hr => first | (go_simp; done) | (go_simp; rfl)); intro gb1140101 hg w3 hbox hb; have n0_ := Aside0.mk (below_step (by repeat (first | (with_reducible first | exact HB.out | apply below_alloc | apply pw_below_drewN | apply below_drew1) | exact HB.out)) hb); have n1_ := Aside0.mk (hbox); have n2_ := Aside0.mk ((by rw [hg]; exact (below_size (by repeat (first | (with_reducible first | exact HB.out | apply below_alloc | apply pw_below_drewN | apply below_drew1) | exact HB.out))) : w.heap.size ≤ gb1140101)); have n3_ := Aside0.mk ((by rw [hg]; exact (below_size (by repeat (first | (with_reducible first | exact HB.out | apply below_alloc | apply pw_below_drewN | apply below_drew1) | exact HB.out))) : w.heap.size ≤ gb1140101)); clear HB; have HB := n0_; have BK1140101 := n1_; have GW1140101 := n2_; have GE1140101 := n3_; clear n0_ n1_ n2_ n3_; clear hb hbox hg))
  go_loopg [7, 8] k (fun kq v7 v8 w' => ∃ (x7_1 : List Int) (x8_1 : Int) (x1140102000_1 : Int) (x1140102001_1 : Int) (x1140102002_1 : Int) (x1140102003_1 : Int) (x1140102004_1 : Int), v8 = .int .i64 x8_1 ∧ Aside0 (larderref04_quoted.l0 kq a0 a1 x7_1 x8_1 = some (r1, r2, r3, r4, r5, r6, r7)) ∧ Aside0 (kq ≤ k) ∧ Aside0 (Kd.R (Kd.int .u8) 5 w' w.heap.size (fun _ => True) v7 x7_1) ∧ Aside0 (w'.heap[gb1140101]? = some (.cells #[.int .i64 x1140102000_1, .int .i64 x1140102001_1, .int .i64 x1140102002_1, .int .i64 x1140102003_1, .int .i64 x1140102004_1] 46 (0, 0))) ∧ Aside0 (Below w.heap.size w w'))
  case atStart => exact ⟨(([] : List Int)), (wrap64 (a1 + 1)), (0), (0), (0), (0), (0), (by first | rfl | (simp; done) | (simp [*]; done)), H', ⟨Nat.le_refl _⟩, ⟨by first | exact Kd.R_nil _ _ _ _ _ | exact Kd.N_nil _ _ _ _ _ | exact Kd.V_nil _ _ _ _ _ | exact Kd.Q_nil _ _ _ _ _ | exact Kd.S_nil _ _ _ _ _⟩, ⟨by (with_reducible repeat (first | refine blk_drewN ?_ _ | refine blk_drew ?_ | refine blk_alloc ?_ _)); exact BK1140101.out⟩, ⟨by repeat (first | (with_reducible first | exact HB.out | apply below_alloc | apply pw_below_drewN | apply below_drew1 | refine below_set ?_ GE1140101.out) | exact HB.out)⟩⟩
  case round =>
    clear H'
    try clear c1
    try clear p2
    obtain ⟨x7_1, x8_1, x1140102000_1, x1140102001_1, x1140102002_1, x1140102003_1, x1140102004_1, rfl, HA, HK1, HO_7, BK1140101, HB⟩ := hrel
    cases gk with
    | zero => exact absurd HA.out (by simp [larderref04_quoted.l0])
    | succ k1 =>
      have H := HA.out
      clear HA
      simp only [larderref04_quoted.l0] at H
      by_cases c4 : x8_1 < (a0.size : Int)
      · rw [if_pos c4] at H
        have c4b0 : decide (x8_1 < (a0.size : Int)) = true := decide_eq_true c4
        clear c4
        by_cases c5 : 0 ≤ x8_1
        · rw [if_pos c5] at H
          have c5b0 : decide (0 ≤ x8_1) = true := decide_eq_true c5
          clear c5
          have HC7 := Aside0.mk H
          clear H
          have p6 : 0 ≤ (x8_1 : Int) := of_decide_eq_true (by first | (with_reducible assumption) | assumption)
          have q6 : x8_1 < (a0.size : Int) := of_decide_eq_true (by first | (with_reducible assumption) | assumption)
          have hx6 := bt_at a0 x8_1
          replace p6 := eq_true p6
          replace q6 := eq_true q6
          go_upto_if 18 with (fail)
          go_cut [8] (fun v8 wc => ∃ (kq : Nat) (x8_6 : Int) (x1140102000_6 : Int) (x1140102001_6 : Int) (x1140102002_6 : Int) (x1140102003_6 : Int) (x1140102004_6 : Int), v8 = .int .i64 x8_6 ∧ Aside0 (larderref04_quoted.j1 kq a0 a1 x7_1 x8_6 = some (r1, r2, r3, r4, r5, r6, r7)) ∧ Aside0 (kq ≤ k1) ∧ Aside0 (Kd.R (Kd.int .u8) 5 wc w.heap.size (fun _ => True) u7 x7_1) ∧ Aside0 (wc.heap[gb1140101]? = some (.cells #[.int .i64 x1140102000_6, .int .i64 x1140102001_6, .int .i64 x1140102002_6, .int .i64 x1140102003_6, .int .i64 x1140102004_6] 46 (0, 0))) ∧ Aside0 (Below w.heap.size w wc))
          case first =>
            have H := HC7.out
            clear HC7
            by_cases c8 : (bt a0 x8_1) = 34
            · rw [if_pos c8] at H
              have c8b0 : ((bt a0 x8_1) == 34) = true := beq_iff_eq.mpr c8
              have c8b1 : ((bt a0 x8_1) != 34) = false := bne_eq_false_iff_eq.mpr c8
              clear c8
              (first | rw [c8b0] | (simp only [i64_w, i32_w]; rw [c8b0]) | skip)
              by_cases c9 : (wrap64 (x8_1 + 1)) ≥ (a0.size : Int)
              · rw [if_pos c9] at H
                have c9b0 : decide ((a0.size : Int) ≤ (wrap64 (x8_1 + 1))) = true := decide_eq_true c9
                clear c9
                simp only [Option.some.injEq, Prod.mk.injEq] at H
                obtain ⟨rfl, rfl, rfl, rfl, rfl, rfl, rfl⟩ := H
                have hcv10 := own_string (P := Tryz.prog) Tryz.underlying37 Tryz.underlying5 Tryz.underlying9 (Kd.own_of_R HO_7.out)
                have hcz11_0 : wr.cell? ⟨gb1140101, 0, none⟩ = some (.int .i64 x1140102000_1) := (blk_cell BK1140101.out 0).trans rfl
                have hcz11_1 : wr.cell? ⟨gb1140101, 1, none⟩ = some (.int .i64 x1140102001_1) := (blk_cell BK1140101.out 1).trans rfl
                have hcz11_2 : wr.cell? ⟨gb1140101, 2, none⟩ = some (.int .i64 x1140102002_1) := (blk_cell BK1140101.out 2).trans rfl
                have hcz11_3 : wr.cell? ⟨gb1140101, 3, none⟩ = some (.int .i64 x1140102003_1) := (blk_cell BK1140101.out 3).trans rfl
                have hcz11_4 : wr.cell? ⟨gb1140101, 4, none⟩ = some (.int .i64 x1140102004_1) := (blk_cell BK1140101.out 4).trans rfl
                have hfz11_0 := blk_frozen BK1140101.out 0
                have hfz11_1 := blk_frozen BK1140101.out 1
                have hfz11_2 := blk_frozen BK1140101.out 2
                have hfz11_3 := blk_frozen BK1140101.out 3
                have hfz11_4 := blk_frozen BK1140101.out 4
                go_wp2
                refine bodyPost_ret (results_list (rs := [.tmp 4, .tmp 5, .cell 6 46]) rfl (by simp) (.tmp (.tmp (.cell gb1140101 46 #[.int .i64 0, .int .i64 0, .int .i64 0, .int .i64 0, .int .i64 0] (0, 0) _ rfl (by (with_reducible repeat (first | refine blk_drewN ?_ _ | refine blk_drew ?_ | refine blk_alloc ?_ _)); refine blk_put (cs := #[.int .i64 0, .int .i64 0, .int .i64 0, .int .i64 0, .int .i64 x1140102004_1]) ?_ 4 _ rfl; (with_reducible repeat (first | refine blk_drewN ?_ _ | refine blk_drew ?_ | refine blk_alloc ?_ _)); refine blk_put (cs := #[.int .i64 0, .int .i64 0, .int .i64 0, .int .i64 x1140102003_1, .int .i64 x1140102004_1]) ?_ 3 _ rfl; (with_reducible repeat (first | refine blk_drewN ?_ _ | refine blk_drew ?_ | refine blk_alloc ?_ _)); refine blk_put (cs := #[.int .i64 0, .int .i64 0, .int .i64 x1140102002_1, .int .i64 x1140102003_1, .int .i64 x1140102004_1]) ?_ 2 _ rfl; (with_reducible repeat (first | refine blk_drewN ?_ _ | refine blk_drew ?_ | refine blk_alloc ?_ _)); refine blk_put (cs := #[.int .i64 0, .int .i64 x1140102001_1, .int .i64 x1140102002_1, .int .i64 x1140102003_1, .int .i64 x1140102004_1]) ?_ 1 _ rfl; (with_reducible repeat (first | refine blk_drewN ?_ _ | refine blk_drew ?_ | refine blk_alloc ?_ _)); refine blk_put (cs := #[.int .i64 x1140102000_1, .int .i64 x1140102001_1, .int .i64 x1140102002_1, .int .i64 x1140102003_1, .int .i64 x1140102004_1]) ?_ 0 _ rfl; (with_reducible repeat (first | refine blk_drewN ?_ _ | refine blk_drew ?_ | refine blk_alloc ?_ _)); exact BK1140101.out) Tryz.underlying46 rfl (by kernel_rfl) .nil)))) rfl ?_
                exact ⟨by first | rfl | (simp [errW_none, errW_some] <;> rfl) | (simp [*, errW_none, errW_some] <;> rfl), by repeat (first | (with_reducible first | exact HB.out | apply below_alloc | apply pw_below_drewN | apply below_drew1 | refine below_set ?_ GE1140101.out) | exact HB.out)⟩
              · rw [if_neg c9] at H
                have c9b0 : decide ((a0.size : Int) ≤ (wrap64 (x8_1 + 1))) = false := decide_eq_false c9
                clear c9
                obtain ⟨ji12, hji12⟩ : ∃ j_ : Int, (wrap64 (x8_1 + 1)) = j_ := ⟨_, rfl⟩
                replace H : (if 0 ≤ (ji12) then (if (ji12) < (a0.size : Int) then (if (bt a0 (ji12)) = 34 then (larderref04_quoted.j1 k1 a0 a1 x7_1 ji12) else (some (strOfNums x7_1, ji12, 0, 0, 0, 0, 0))) else (none)) else (none)) = some (r1, r2, r3, r4, r5, r6, r7) := by first | (rw [hji12] at H; exact H) | (simp only [hji12] at H ⊢; exact H)
                (try rw [hji12] at c9b0)
                have hji12w : (IntKind.i64.wrap (x8_1 + 1)) = ji12 := (i64_w _).trans hji12
                by_cases c13 : 0 ≤ (ji12)
                · rw [if_pos c13] at H
                  have c13b0 : decide (0 ≤ (ji12)) = true := decide_eq_true c13
                  clear c13
                  by_cases c14 : (ji12) < (a0.size : Int)
                  · rw [if_pos c14] at H
                    have c14b0 : decide ((ji12) < (a0.size : Int)) = true := decide_eq_true c14
                    clear c14
                    by_cases c16 : (bt a0 (ji12)) = 34
                    · rw [if_pos c16] at H
                      have c16b0 : ((bt a0 (ji12)) == 34) = true := beq_iff_eq.mpr c16
                      have c16b1 : ((bt a0 (ji12)) != 34) = false := bne_eq_false_iff_eq.mpr c16
                      clear c16
                      have H' := Aside0.mk H
                      clear H
                      have p15 : 0 ≤ ((ji12) : Int) := of_decide_eq_true (by first | (with_reducible assumption) | assumption)
                      have q15 : (ji12) < (a0.size : Int) := of_decide_eq_true (by first | (with_reducible assumption) | assumption)
                      have hx15 := bt_at a0 (ji12)
                      replace p15 := eq_true p15
                      replace q15 := eq_true q15
                      go_wp2
                      go_meet
                      case rel => exact ⟨_, (ji12), (x1140102000_1), (x1140102001_1), (x1140102002_1), (x1140102003_1), (x1140102004_1), (by first | rfl | (simp; done) | (simp only [← hji12] <;> (first | rfl | simp)) | (simp [*]; done)), H', ⟨by have := HK1.out; first | omega | exact Nat.le_refl _⟩, ⟨by (with_reducible repeat (first | apply Kd.R_alloc | apply Kd.R_drewN | apply Kd.R_drew)); exact HO_7.out⟩, ⟨by (with_reducible repeat (first | refine blk_drewN ?_ _ | refine blk_drew ?_ | refine blk_alloc ?_ _)); exact BK1140101.out⟩, ⟨by repeat (first | (with_reducible first | exact HB.out | apply below_alloc | apply pw_below_drewN | apply below_drew1 | refine below_set ?_ GE1140101.out) | exact HB.out)⟩⟩
                    · rw [if_neg c16] at H
                      have c16b0 : ((bt a0 (ji12)) == 34) = false := beq_eq_false_iff_ne.mpr c16
                      have c16b1 : ((bt a0 (ji12)) != 34) = true := bne_iff_ne.mpr c16
                      simp only [Option.some.injEq, Prod.mk.injEq] at H
                      obtain ⟨rfl, rfl, rfl, rfl, rfl, rfl, rfl⟩ := H
                      have p15 : 0 ≤ ((ji12) : Int) := of_decide_eq_true (by first | (with_reducible assumption) | assumption)
                      have q15 : (ji12) < (a0.size : Int) := of_decide_eq_true (by first | (with_reducible assumption) | assumption)
                      have hx15 := bt_at a0 (ji12)
                      replace p15 := eq_true p15
                      replace q15 := eq_true q15
                      have hcv17 := own_string (P := Tryz.prog) Tryz.underlying37 Tryz.underlying5 Tryz.underlying9 (Kd.own_of_R HO_7.out)
                      have hcz18_0 : wr.cell? ⟨gb1140101, 0, none⟩ = some (.int .i64 x1140102000_1) := (blk_cell BK1140101.out 0).trans rfl
                      have hcz18_1 : wr.cell? ⟨gb1140101, 1, none⟩ = some (.int .i64 x1140102001_1) := (blk_cell BK1140101.out 1).trans rfl
                      have hcz18_2 : wr.cell? ⟨gb1140101, 2, none⟩ = some (.int .i64 x1140102002_1) := (blk_cell BK1140101.out 2).trans rfl
                      have hcz18_3 : wr.cell? ⟨gb1140101, 3, none⟩ = some (.int .i64 x1140102003_1) := (blk_cell BK1140101.out 3).trans rfl
                      have hcz18_4 : wr.cell? ⟨gb1140101, 4, none⟩ = some (.int .i64 x1140102004_1) := (blk_cell BK1140101.out 4).trans rfl
                      have hfz18_0 := blk_frozen BK1140101.out 0
                      have hfz18_1 := blk_frozen BK1140101.out 1
                      have hfz18_2 := blk_frozen BK1140101.out 2
                      have hfz18_3 := blk_frozen BK1140101.out 3
                      have hfz18_4 := blk_frozen BK1140101.out 4
                      go_wp2
                      refine bodyPost_ret (results_list (rs := [.tmp 4, .tmp 5, .cell 6 46]) rfl (by simp) (.tmp (.tmp (.cell gb1140101 46 #[.int .i64 0, .int .i64 0, .int .i64 0, .int .i64 0, .int .i64 0] (0, 0) _ rfl (by (with_reducible repeat (first | refine blk_drewN ?_ _ | refine blk_drew ?_ | refine blk_alloc ?_ _)); refine blk_put (cs := #[.int .i64 0, .int .i64 0, .int .i64 0, .int .i64 0, .int .i64 x1140102004_1]) ?_ 4 _ rfl; (with_reducible repeat (first | refine blk_drewN ?_ _ | refine blk_drew ?_ | refine blk_alloc ?_ _)); refine blk_put (cs := #[.int .i64 0, .int .i64 0, .int .i64 0, .int .i64 x1140102003_1, .int .i64 x1140102004_1]) ?_ 3 _ rfl; (with_reducible repeat (first | refine blk_drewN ?_ _ | refine blk_drew ?_ | refine blk_alloc ?_ _)); refine blk_put (cs := #[.int .i64 0, .int .i64 0, .int .i64 x1140102002_1, .int .i64 x1140102003_1, .int .i64 x1140102004_1]) ?_ 2 _ rfl; (with_reducible repeat (first | refine blk_drewN ?_ _ | refine blk_drew ?_ | refine blk_alloc ?_ _)); refine blk_put (cs := #[.int .i64 0, .int .i64 x1140102001_1, .int .i64 x1140102002_1, .int .i64 x1140102003_1, .int .i64 x1140102004_1]) ?_ 1 _ rfl; (with_reducible repeat (first | refine blk_drewN ?_ _ | refine blk_drew ?_ | refine blk_alloc ?_ _)); refine blk_put (cs := #[.int .i64 x1140102000_1, .int .i64 x1140102001_1, .int .i64 x1140102002_1, .int .i64 x1140102003_1, .int .i64 x1140102004_1]) ?_ 0 _ rfl; (with_reducible repeat (first | refine blk_drewN ?_ _ | refine blk_drew ?_ | refine blk_alloc ?_ _)); exact BK1140101.out) Tryz.underlying46 rfl (by kernel_rfl) .nil)))) rfl ?_
                      exact ⟨by first | rfl | (simp [errW_none, errW_some] <;> rfl) | (simp only [← hji12]; first | rfl | (simp [errW_none, errW_some] <;> rfl)) | (simp [*, errW_none, errW_some] <;> rfl), by repeat (first | (with_reducible first | exact HB.out | apply below_alloc | apply pw_below_drewN | apply below_drew1 | refine below_set ?_ GE1140101.out) | exact HB.out)⟩
                  · rw [if_neg c14] at H
                    exact absurd H (by simp)
                · rw [if_neg c13] at H
                  exact absurd H (by simp)
            · rw [if_neg c8] at H
              have c8b0 : ((bt a0 x8_1) == 34) = false := beq_eq_false_iff_ne.mpr c8
              have c8b1 : ((bt a0 x8_1) != 34) = true := bne_iff_ne.mpr c8
              (first | rw [c8b0] | (simp only [i64_w, i32_w]; rw [c8b0]) | skip)
              have H' := Aside0.mk H
              clear H
              go_wp2
              go_meet
              case rel => exact ⟨_, (x8_1), (x1140102000_1), (x1140102001_1), (x1140102002_1), (x1140102003_1), (x1140102004_1), (by first | rfl | (simp; done) | (simp [*]; done)), H', ⟨by have := HK1.out; first | omega | exact Nat.le_refl _⟩, ⟨by (with_reducible repeat (first | apply Kd.R_alloc | apply Kd.R_drewN | apply Kd.R_drew)); exact HO_7.out⟩, ⟨by (with_reducible repeat (first | refine blk_drewN ?_ _ | refine blk_drew ?_ | refine blk_alloc ?_ _)); exact BK1140101.out⟩, ⟨by repeat (first | (with_reducible first | exact HB.out | apply below_alloc | apply pw_below_drewN | apply below_drew1 | refine below_set ?_ GE1140101.out) | exact HB.out)⟩⟩
          case rest =>
            clear HC7
            try clear c1
            try clear p1
            try clear q1
            try clear hx1
            try clear hcv1
            try clear p2
            try clear c4
            try clear c4b0
            try clear c5
            try clear c5b0
            try clear p6
            try clear q6
            try clear hx6
            try clear c8
            try clear c8b0
            try clear c8b1
            try clear c9
            try clear c9b0
            try clear hcv10
            try clear c11
            try clear c13
            try clear c13b0
            try clear c14
            try clear c14b0
            try clear p15
            try clear q15
            try clear hx15
            try clear c16
            try clear c16b0
            try clear c16b1
            try clear hcv17
            try clear hcz11_0
            try clear hcz11_1
            try clear hcz11_2
            try clear hcz11_3
            try clear hcz11_4
            try clear hcz18_0
            try clear hcz18_1
            try clear hcz18_2
            try clear hcz18_3
            try clear hcz18_4
            try clear hfz11_0
            try clear hfz11_1
            try clear hfz11_2
            try clear hfz11_3
            try clear hfz11_4
            try clear hfz18_0
            try clear hfz18_1
            try clear hfz18_2
            try clear hfz18_3
            try clear hfz18_4
            try clear p15
            try clear p2
            try clear p6
            try clear q15
            try clear q6
            obtain ⟨kq, x8_6, x1140102000_6, x1140102001_6, x1140102002_6, x1140102003_6, x1140102004_6, rfl, HA, HJ6, HO_7, BK1140101, HB⟩ := hcut
            cases kq with
            | zero => exact absurd HA.out (by simp [larderref04_quoted.j1])
            | succ kj6 =>
              have H := HA.out
              clear HA
              simp only [larderref04_quoted.j1] at H
              by_cases c19 : 0 ≤ x8_6
              · rw [if_pos c19] at H
                have c19b0 : decide (0 ≤ x8_6) = true := decide_eq_true c19
                clear c19
                by_cases c20 : x8_6 < (a0.size : Int)
                · rw [if_pos c20] at H
                  have c20b0 : decide (x8_6 < (a0.size : Int)) = true := decide_eq_true c20
                  clear c20
                  replace H := Option.bind_eq_some_iff.mp H
                  obtain ⟨t1140107, A220, H⟩ := H
                  replace H : (if t1140107 = true then (if (x7_1.length : Int) = 4096 then ((larderref04_placed.f kj6 a0 5 x8_6).bind fun bt1140108 => (some ((⟨#[]⟩ : ByteArray), 0, bt1140108.1, bt1140108.2.1, bt1140108.2.2.1, bt1140108.2.2.2.1, bt1140108.2.2.2.2))) else (if x7_1.length < 140737488355328 then (larderref04_quoted.l0 kj6 a0 a1 (x7_1 ++ [bt a0 x8_6]) (wrap64 (x8_6 + 1))) else (none))) else ((larderref04_placed.f kj6 a0 4 x8_6).bind fun bt1140116 => (some ((⟨#[]⟩ : ByteArray), 0, bt1140116.1, bt1140116.2.1, bt1140116.2.2.1, bt1140116.2.2.2.1, bt1140116.2.2.2.2)))) = some (r1, r2, r3, r4, r5, r6, r7) := H
                  have A22 := Aside0.mk A220
                  clear A220
                  by_cases c23 : t1140107 = true
                  · subst c23
                    have H1 : (if (x7_1.length : Int) = 4096 then ((larderref04_placed.f kj6 a0 5 x8_6).bind fun bt1140108 => (some ((⟨#[]⟩ : ByteArray), 0, bt1140108.1, bt1140108.2.1, bt1140108.2.2.1, bt1140108.2.2.2.1, bt1140108.2.2.2.2))) else (if x7_1.length < 140737488355328 then (larderref04_quoted.l0 kj6 a0 a1 (x7_1 ++ [bt a0 x8_6]) (wrap64 (x8_6 + 1))) else (none))) = some (r1, r2, r3, r4, r5, r6, r7) := by rw [if_pos rfl] at H; exact H
                    clear H
                    have H := H1
                    clear H1
                    by_cases c24 : (x7_1.length : Int) = 4096
                    · rw [if_pos c24] at H
                      have c24b0 : ((x7_1.length : Int) == 4096) = true := beq_iff_eq.mpr c24
                      have c24b1 : ((x7_1.length : Int) != 4096) = false := bne_eq_false_iff_eq.mpr c24
                      clear c24
                      replace H := Option.bind_eq_some_iff.mp H
                      obtain ⟨⟨t1140108, t1140109, t1140110, t1140111, t1140112⟩, A250, H⟩ := H
                      replace H : (some ((⟨#[]⟩ : ByteArray), 0, t1140108, t1140109, t1140110, t1140111, t1140112)) = some (r1, r2, r3, r4, r5, r6, r7) := H
                      have A25 := Aside0.mk A250
                      clear A250
                      simp only [Option.some.injEq, Prod.mk.injEq] at H
                      obtain ⟨rfl, rfl, rfl, rfl, rfl, rfl, rfl⟩ := H
                      have p21 : 0 ≤ (x8_6 : Int) := of_decide_eq_true (by first | (with_reducible assumption) | assumption)
                      have q21 : x8_6 < (a0.size : Int) := of_decide_eq_true (by first | (with_reducible assumption) | assumption)
                      have hx21 := bt_at a0 x8_6
                      replace p21 := eq_true p21
                      replace q21 := eq_true q21
                      go_wp2_with (first | ((with_reducible refine gate_callee (f := 96) rfl ?_); refine goesL_ (some 41) rfl rfl Tryz.func96 (by kernel_rfl) rfl #[.int .u8 (bt a0 x8_6)] rfl (by (try simp only [List.map_toArray, List.map_cons, List.map_nil]); first | done | rfl | (simp only [List.length_drop, List.length_take]; rfl)) ?_; (with_reducible refine (larderref04_may.calls (bt a0 x8_6) true _ A22.out).mono ?_); rintro e w' ⟨rfl, ⟨nd, rfl⟩⟩; refine ⟨_, rfl, ?_⟩; (try (rw [drewN_self wc]; generalize hq_ : World.drewN wc _ = wc; have n0_ : Aside0 (Kd.R (Kd.int .u8) 5 wc w.heap.size (fun _ => True) u7 x7_1) := ⟨by rw [← hq_]; exact (by (with_reducible repeat (first | apply Kd.R_alloc | apply Kd.R_drewN | apply Kd.R_drew)); exact HO_7.out)⟩; have n1_ : Aside0 (wc.heap[gb1140101]? = some (.cells #[.int .i64 x1140102000_6, .int .i64 x1140102001_6, .int .i64 x1140102002_6, .int .i64 x1140102003_6, .int .i64 x1140102004_6] 46 (0, 0))) := ⟨by rw [← hq_]; exact (by (with_reducible repeat (first | refine blk_drewN ?_ _ | refine blk_drew ?_ | refine blk_alloc ?_ _)); exact BK1140101.out)⟩; have n2_ : Aside0 (Below w.heap.size w wc) := ⟨by rw [← hq_]; exact (by repeat (first | (with_reducible first | exact HB.out | apply below_alloc | apply pw_below_drewN | apply below_drew1 | refine below_set ?_ GE1140101.out) | exact HB.out))⟩; clear HO_7 BK1140101 HB hq_; have HO_7 := n0_; have BK1140101 := n1_; have HB := n2_; clear n0_ n1_ n2_)); obtain ⟨Ao26, co26, eo26⟩ := Kd.R_slice HO_7.out; subst eo26) | ((with_reducible refine gate_callee (f := 71) rfl ?_); refine goesL_ (some 51) rfl rfl Tryz.func71 (by kernel_rfl) rfl #[.string a0, .int .i64 5, .int .i64 x8_6] rfl (by (try simp only [List.map_toArray, List.map_cons, List.map_nil]); first | done | rfl | (simp only [List.length_drop, List.length_take]; rfl)) ?_; (with_reducible refine (larderref04_placed.calls kj6 a0 5 x8_6 t1140108 t1140109 t1140110 t1140111 t1140112 _ A25.out).mono ?_); rintro e w27 ⟨rfl, hb⟩; refine ⟨_, rfl, ?_⟩; have n0_ := Aside0.mk (Kd.R_below (by (with_reducible repeat (first | apply Kd.R_alloc | apply Kd.R_drewN | apply Kd.R_drew)); exact HO_7.out) hb); have n1_ := Aside0.mk (blk_below (g := gb1140101) (o := .cells #[.int .i64 x1140102000_6, .int .i64 x1140102001_6, .int .i64 x1140102002_6, .int .i64 x1140102003_6, .int .i64 x1140102004_6] 46 (0, 0)) (by (with_reducible repeat (first | refine blk_drewN ?_ _ | refine blk_drew ?_ | refine blk_alloc ?_ _)); exact BK1140101.out) hb); have n2_ := Aside0.mk (below_step (by repeat (first | (with_reducible first | exact HB.out | apply below_alloc | apply pw_below_drewN | apply below_drew1 | refine below_set ?_ GE1140101.out) | exact HB.out)) hb); clear HO_7; clear BK1140101; clear HB; have HO_7 := n0_; have BK1140101 := n1_; have HB := n2_; clear n0_ n1_ n2_; (try clear hb); (try clear hb2); (try clear hk); (try clear hi); have hcz28_0 : w27.cell? ⟨gb1140101, 0, none⟩ = some (.int .i64 x1140102000_6) := (blk_cell BK1140101.out 0).trans rfl; have hcz28_1 : w27.cell? ⟨gb1140101, 1, none⟩ = some (.int .i64 x1140102001_6) := (blk_cell BK1140101.out 1).trans rfl; have hcz28_2 : w27.cell? ⟨gb1140101, 2, none⟩ = some (.int .i64 x1140102002_6) := (blk_cell BK1140101.out 2).trans rfl; have hcz28_3 : w27.cell? ⟨gb1140101, 3, none⟩ = some (.int .i64 x1140102003_6) := (blk_cell BK1140101.out 3).trans rfl; have hcz28_4 : w27.cell? ⟨gb1140101, 4, none⟩ = some (.int .i64 x1140102004_6) := (blk_cell BK1140101.out 4).trans rfl; have hfz28_0 := blk_frozen BK1140101.out 0; have hfz28_1 := blk_frozen BK1140101.out 1; have hfz28_2 := blk_frozen BK1140101.out 2; have hfz28_3 := blk_frozen BK1140101.out 3; have hfz28_4 := blk_frozen BK1140101.out 4))
                      refine bodyPost_ret (results_list (rs := [.tmp 4, .tmp 5, .cell 6 46]) rfl (by simp) (.tmp (.tmp (.cell gb1140101 46 #[.int .i64 t1140108, .int .i64 t1140109, .int .i64 t1140110, .int .i64 t1140111, .int .i64 t1140112] (0, 0) _ rfl (by (with_reducible repeat (first | refine blk_drewN ?_ _ | refine blk_drew ?_ | refine blk_alloc ?_ _)); refine blk_put (cs := #[.int .i64 t1140108, .int .i64 t1140109, .int .i64 t1140110, .int .i64 t1140111, .int .i64 x1140102004_6]) ?_ 4 _ rfl; (with_reducible repeat (first | refine blk_drewN ?_ _ | refine blk_drew ?_ | refine blk_alloc ?_ _)); refine blk_put (cs := #[.int .i64 t1140108, .int .i64 t1140109, .int .i64 t1140110, .int .i64 x1140102003_6, .int .i64 x1140102004_6]) ?_ 3 _ rfl; (with_reducible repeat (first | refine blk_drewN ?_ _ | refine blk_drew ?_ | refine blk_alloc ?_ _)); refine blk_put (cs := #[.int .i64 t1140108, .int .i64 t1140109, .int .i64 x1140102002_6, .int .i64 x1140102003_6, .int .i64 x1140102004_6]) ?_ 2 _ rfl; (with_reducible repeat (first | refine blk_drewN ?_ _ | refine blk_drew ?_ | refine blk_alloc ?_ _)); refine blk_put (cs := #[.int .i64 t1140108, .int .i64 x1140102001_6, .int .i64 x1140102002_6, .int .i64 x1140102003_6, .int .i64 x1140102004_6]) ?_ 1 _ rfl; (with_reducible repeat (first | refine blk_drewN ?_ _ | refine blk_drew ?_ | refine blk_alloc ?_ _)); refine blk_put (cs := #[.int .i64 x1140102000_6, .int .i64 x1140102001_6, .int .i64 x1140102002_6, .int .i64 x1140102003_6, .int .i64 x1140102004_6]) ?_ 0 _ rfl; (with_reducible repeat (first | refine blk_drewN ?_ _ | refine blk_drew ?_ | refine blk_alloc ?_ _)); exact BK1140101.out) Tryz.underlying46 rfl (by kernel_rfl) .nil)))) rfl ?_
                      exact ⟨by first | rfl | (simp [errW_none, errW_some] <;> rfl) | (simp [*, errW_none, errW_some] <;> rfl), by repeat (first | (with_reducible first | exact HB.out | apply below_alloc | apply pw_below_drewN | apply below_drew1 | refine below_set ?_ GE1140101.out) | exact HB.out)⟩
                    · rw [if_neg c24] at H
                      have c24b0 : ((x7_1.length : Int) == 4096) = false := beq_eq_false_iff_ne.mpr c24
                      have c24b1 : ((x7_1.length : Int) != 4096) = true := bne_iff_ne.mpr c24
                      by_cases c30 : x7_1.length < 140737488355328
                      · rw [if_pos c30] at H
                        have LMc30 := Aside0.mk c30
                        clear c30
                        obtain ⟨y1140113, hy1140113⟩ : ∃ y_ : List Int, y_ = (x7_1 ++ [bt a0 x8_6]) := ⟨_, rfl⟩
                        replace H : (larderref04_quoted.l0 kj6 a0 a1 y1140113 (wrap64 (x8_6 + 1))) = some (r1, r2, r3, r4, r5, r6, r7) := by first | (rw [hy1140113]; with_reducible exact H) | (have H2_ := (Option.bind_some _ _).symm.trans H; rw [hy1140113]; with_reducible exact H2_) | (have H2_ := (Option.bind_some _ _).symm.trans H; with_reducible exact H2_) | with_reducible exact H | (rw [hy1140113]; exact H) | exact H
                        have Ny1140113 := Aside0.mk hy1140113
                        clear hy1140113
                        have H' := Aside0.mk H
                        clear H
                        have p21 : 0 ≤ (x8_6 : Int) := of_decide_eq_true (by first | (with_reducible assumption) | assumption)
                        have q21 : x8_6 < (a0.size : Int) := of_decide_eq_true (by first | (with_reducible assumption) | assumption)
                        have hx21 := bt_at a0 x8_6
                        replace p21 := eq_true p21
                        replace q21 := eq_true q21
                        go_wp2_with (first | ((with_reducible refine gate_callee (f := 96) rfl ?_); refine goesL_ (some 41) rfl rfl Tryz.func96 (by kernel_rfl) rfl #[.int .u8 (bt a0 x8_6)] rfl (by (try simp only [List.map_toArray, List.map_cons, List.map_nil]); first | done | rfl | (simp only [List.length_drop, List.length_take]; rfl)) ?_; (with_reducible refine (larderref04_may.calls (bt a0 x8_6) true _ A22.out).mono ?_); rintro e w' ⟨rfl, ⟨nd, rfl⟩⟩; refine ⟨_, rfl, ?_⟩; obtain ⟨Ao31, co31, eo31⟩ := Kd.R_slice HO_7.out; subst eo31; have p29 : 0 ≤ (x8_6 : Int) := of_decide_eq_true (by first | (with_reducible assumption) | assumption); have q29 : x8_6 < (a0.size : Int) := of_decide_eq_true (by first | (with_reducible assumption) | assumption); have hx29 := bt_at a0 x8_6; replace p29 := eq_true p29; replace q29 := eq_true q29) | ((with_reducible refine gate_builtin (b := .append) (xs := #[.tmp 52, .tmp 56]) rfl ?_); at_builtin; refine Kd.R_append (Kd.int .u8) (w0 := w) w.heap.size rfl (.tmp 52) (.tmp 56) 37 5 (.int .u8 0) 1 rfl Tryz.underlying37 info5 rfl (by decide) (by omega) (.slice Ao31 x7_1.length co31) x7_1 (bt a0 x8_6) [.int .u8 (bt a0 x8_6)] (fun _ => True) (fun _ => False) rfl rfl ?aP (fun _ hk => hk.elim) ?aF ?aO ?aB ?aS ?aL ?_; (case aP => exact rfl); (case aB => exact (by repeat (first | (with_reducible first | exact HB.out | apply below_alloc | apply pw_below_drewN | apply below_drew1 | refine below_set ?_ GE1140101.out) | exact HB.out))); (case aF => exact (fun _ _ => trivial)); (case aO => exact (by (with_reducible repeat (first | apply Kd.R_alloc | apply Kd.R_drewN | apply Kd.R_drew)); exact HO_7.out)); (case aS => exact (below_size (by repeat (first | (with_reducible first | exact HB.out | apply below_alloc | apply pw_below_drewN | apply below_drew1 | refine below_set ?_ GE1140101.out) | exact HB.out)))); (case aL => have := LMc30.out; omega); intro v1140114 w32 ho hb hg hat; rw [← Ny1140113.out] at ho; have n0_ := Aside0.mk (blk_grown (g := gb1140101) (o := .cells #[.int .i64 x1140102000_6, .int .i64 x1140102001_6, .int .i64 x1140102002_6, .int .i64 x1140102003_6, .int .i64 x1140102004_6] 46 (0, 0)) (by (with_reducible repeat (first | refine blk_drewN ?_ _ | refine blk_drew ?_ | refine blk_alloc ?_ _)); exact BK1140101.out) hg (Kd.R_ne HO_7.out BK1140101.out (by decide))); have n1_ := Aside0.mk (hb); have n2_ := Aside0.mk (ho); clear BK1140101; clear HB; clear HO_7; have BK1140101 := n0_; have HB := n1_; have HO1140115 := n2_; clear n0_ n1_ n2_; clear ho hb hg hat))
                        go_roundg kj6
                        case measure => have := HK1.out; have := HJ6.out; omega
                        case rel => exact ⟨(y1140113), (wrap64 (x8_6 + 1)), (x1140102000_6), (x1140102001_6), (x1140102002_6), (x1140102003_6), (x1140102004_6), (by first | rfl | (simp; done) | (simp [*]; done)), H', ⟨by have := HK1.out; have := HJ6.out; omega⟩, ⟨by (with_reducible repeat (first | apply Kd.R_alloc | apply Kd.R_drewN | apply Kd.R_drew)); exact HO1140115.out⟩, ⟨by (with_reducible repeat (first | refine blk_drewN ?_ _ | refine blk_drew ?_ | refine blk_alloc ?_ _)); exact BK1140101.out⟩, ⟨by repeat (first | (with_reducible first | exact HB.out | apply below_alloc | apply pw_below_drewN | apply below_drew1 | refine below_set ?_ GE1140101.out) | exact HB.out)⟩⟩
                      · rw [if_neg c30] at H
                        exact absurd H (by simp)
                  · replace c23 := Bool.eq_false_iff.mpr c23
                    subst c23
                    have H1 : ((larderref04_placed.f kj6 a0 4 x8_6).bind fun bt1140116 => (some ((⟨#[]⟩ : ByteArray), 0, bt1140116.1, bt1140116.2.1, bt1140116.2.2.1, bt1140116.2.2.2.1, bt1140116.2.2.2.2))) = some (r1, r2, r3, r4, r5, r6, r7) := by rw [if_neg (show ¬ (false = true) by decide)] at H; exact H
                    clear H
                    have H := H1
                    clear H1
                    replace H := Option.bind_eq_some_iff.mp H
                    obtain ⟨⟨t1140116, t1140117, t1140118, t1140119, t1140120⟩, A330, H⟩ := H
                    replace H : (some ((⟨#[]⟩ : ByteArray), 0, t1140116, t1140117, t1140118, t1140119, t1140120)) = some (r1, r2, r3, r4, r5, r6, r7) := H
                    have A33 := Aside0.mk A330
                    clear A330
                    simp only [Option.some.injEq, Prod.mk.injEq] at H
                    obtain ⟨rfl, rfl, rfl, rfl, rfl, rfl, rfl⟩ := H
                    have p21 : 0 ≤ (x8_6 : Int) := of_decide_eq_true (by first | (with_reducible assumption) | assumption)
                    have q21 : x8_6 < (a0.size : Int) := of_decide_eq_true (by first | (with_reducible assumption) | assumption)
                    have hx21 := bt_at a0 x8_6
                    replace p21 := eq_true p21
                    replace q21 := eq_true q21
                    go_wp2_with (first | ((with_reducible refine gate_callee (f := 96) rfl ?_); refine goesL_ (some 41) rfl rfl Tryz.func96 (by kernel_rfl) rfl #[.int .u8 (bt a0 x8_6)] rfl (by (try simp only [List.map_toArray, List.map_cons, List.map_nil]); first | done | rfl | (simp only [List.length_drop, List.length_take]; rfl)) ?_; (with_reducible refine (larderref04_may.calls (bt a0 x8_6) false _ A22.out).mono ?_); rintro e w' ⟨rfl, ⟨nd, rfl⟩⟩; refine ⟨_, rfl, ?_⟩; (try (rw [drewN_self wc]; generalize hq_ : World.drewN wc _ = wc; have n0_ : Aside0 (Kd.R (Kd.int .u8) 5 wc w.heap.size (fun _ => True) u7 x7_1) := ⟨by rw [← hq_]; exact (by (with_reducible repeat (first | apply Kd.R_alloc | apply Kd.R_drewN | apply Kd.R_drew)); exact HO_7.out)⟩; have n1_ : Aside0 (wc.heap[gb1140101]? = some (.cells #[.int .i64 x1140102000_6, .int .i64 x1140102001_6, .int .i64 x1140102002_6, .int .i64 x1140102003_6, .int .i64 x1140102004_6] 46 (0, 0))) := ⟨by rw [← hq_]; exact (by (with_reducible repeat (first | refine blk_drewN ?_ _ | refine blk_drew ?_ | refine blk_alloc ?_ _)); exact BK1140101.out)⟩; have n2_ : Aside0 (Below w.heap.size w wc) := ⟨by rw [← hq_]; exact (by repeat (first | (with_reducible first | exact HB.out | apply below_alloc | apply pw_below_drewN | apply below_drew1 | refine below_set ?_ GE1140101.out) | exact HB.out))⟩; clear HO_7 BK1140101 HB hq_; have HO_7 := n0_; have BK1140101 := n1_; have HB := n2_; clear n0_ n1_ n2_))) | ((with_reducible refine gate_callee (f := 71) rfl ?_); refine goesL_ (some 45) rfl rfl Tryz.func71 (by kernel_rfl) rfl #[.string a0, .int .i64 4, .int .i64 x8_6] rfl (by (try simp only [List.map_toArray, List.map_cons, List.map_nil]); first | done | rfl | (simp only [List.length_drop, List.length_take]; rfl)) ?_; (with_reducible refine (larderref04_placed.calls kj6 a0 4 x8_6 t1140116 t1140117 t1140118 t1140119 t1140120 _ A33.out).mono ?_); rintro e w34 ⟨rfl, hb⟩; refine ⟨_, rfl, ?_⟩; have n0_ := Aside0.mk (Kd.R_below (by (with_reducible repeat (first | apply Kd.R_alloc | apply Kd.R_drewN | apply Kd.R_drew)); exact HO_7.out) hb); have n1_ := Aside0.mk (blk_below (g := gb1140101) (o := .cells #[.int .i64 x1140102000_6, .int .i64 x1140102001_6, .int .i64 x1140102002_6, .int .i64 x1140102003_6, .int .i64 x1140102004_6] 46 (0, 0)) (by (with_reducible repeat (first | refine blk_drewN ?_ _ | refine blk_drew ?_ | refine blk_alloc ?_ _)); exact BK1140101.out) hb); have n2_ := Aside0.mk (below_step (by repeat (first | (with_reducible first | exact HB.out | apply below_alloc | apply pw_below_drewN | apply below_drew1 | refine below_set ?_ GE1140101.out) | exact HB.out)) hb); clear HO_7; clear BK1140101; clear HB; have HO_7 := n0_; have BK1140101 := n1_; have HB := n2_; clear n0_ n1_ n2_; (try clear hb); (try clear hb2); (try clear hk); (try clear hi); have hcz35_0 : w34.cell? ⟨gb1140101, 0, none⟩ = some (.int .i64 x1140102000_6) := (blk_cell BK1140101.out 0).trans rfl; have hcz35_1 : w34.cell? ⟨gb1140101, 1, none⟩ = some (.int .i64 x1140102001_6) := (blk_cell BK1140101.out 1).trans rfl; have hcz35_2 : w34.cell? ⟨gb1140101, 2, none⟩ = some (.int .i64 x1140102002_6) := (blk_cell BK1140101.out 2).trans rfl; have hcz35_3 : w34.cell? ⟨gb1140101, 3, none⟩ = some (.int .i64 x1140102003_6) := (blk_cell BK1140101.out 3).trans rfl; have hcz35_4 : w34.cell? ⟨gb1140101, 4, none⟩ = some (.int .i64 x1140102004_6) := (blk_cell BK1140101.out 4).trans rfl; have hfz35_0 := blk_frozen BK1140101.out 0; have hfz35_1 := blk_frozen BK1140101.out 1; have hfz35_2 := blk_frozen BK1140101.out 2; have hfz35_3 := blk_frozen BK1140101.out 3; have hfz35_4 := blk_frozen BK1140101.out 4))
                    refine bodyPost_ret (results_list (rs := [.tmp 4, .tmp 5, .cell 6 46]) rfl (by simp) (.tmp (.tmp (.cell gb1140101 46 #[.int .i64 t1140116, .int .i64 t1140117, .int .i64 t1140118, .int .i64 t1140119, .int .i64 t1140120] (0, 0) _ rfl (by (with_reducible repeat (first | refine blk_drewN ?_ _ | refine blk_drew ?_ | refine blk_alloc ?_ _)); refine blk_put (cs := #[.int .i64 t1140116, .int .i64 t1140117, .int .i64 t1140118, .int .i64 t1140119, .int .i64 x1140102004_6]) ?_ 4 _ rfl; (with_reducible repeat (first | refine blk_drewN ?_ _ | refine blk_drew ?_ | refine blk_alloc ?_ _)); refine blk_put (cs := #[.int .i64 t1140116, .int .i64 t1140117, .int .i64 t1140118, .int .i64 x1140102003_6, .int .i64 x1140102004_6]) ?_ 3 _ rfl; (with_reducible repeat (first | refine blk_drewN ?_ _ | refine blk_drew ?_ | refine blk_alloc ?_ _)); refine blk_put (cs := #[.int .i64 t1140116, .int .i64 t1140117, .int .i64 x1140102002_6, .int .i64 x1140102003_6, .int .i64 x1140102004_6]) ?_ 2 _ rfl; (with_reducible repeat (first | refine blk_drewN ?_ _ | refine blk_drew ?_ | refine blk_alloc ?_ _)); refine blk_put (cs := #[.int .i64 t1140116, .int .i64 x1140102001_6, .int .i64 x1140102002_6, .int .i64 x1140102003_6, .int .i64 x1140102004_6]) ?_ 1 _ rfl; (with_reducible repeat (first | refine blk_drewN ?_ _ | refine blk_drew ?_ | refine blk_alloc ?_ _)); refine blk_put (cs := #[.int .i64 x1140102000_6, .int .i64 x1140102001_6, .int .i64 x1140102002_6, .int .i64 x1140102003_6, .int .i64 x1140102004_6]) ?_ 0 _ rfl; (with_reducible repeat (first | refine blk_drewN ?_ _ | refine blk_drew ?_ | refine blk_alloc ?_ _)); exact BK1140101.out) Tryz.underlying46 rfl (by kernel_rfl) .nil)))) rfl ?_
                    exact ⟨by first | rfl | (simp [errW_none, errW_some] <;> rfl) | (simp [*, errW_none, errW_some] <;> rfl), by repeat (first | (with_reducible first | exact HB.out | apply below_alloc | apply pw_below_drewN | apply below_drew1 | refine below_set ?_ GE1140101.out) | exact HB.out)⟩
                · rw [if_neg c20] at H
                  exact absurd H (by simp)
              · rw [if_neg c19] at H
                exact absurd H (by simp)
        · rw [if_neg c5] at H
          exact absurd H (by simp)
      · rw [if_neg c4] at H
        have c4b0 : decide (x8_1 < (a0.size : Int)) = false := decide_eq_false c4
        clear c4
        replace H := Option.bind_eq_some_iff.mp H
        obtain ⟨⟨t1140102, t1140103, t1140104, t1140105, t1140106⟩, A360, H⟩ := H
        replace H : (some ((⟨#[]⟩ : ByteArray), 0, t1140102, t1140103, t1140104, t1140105, t1140106)) = some (r1, r2, r3, r4, r5, r6, r7) := H
        have A36 := Aside0.mk A360
        clear A360
        simp only [Option.some.injEq, Prod.mk.injEq] at H
        obtain ⟨rfl, rfl, rfl, rfl, rfl, rfl, rfl⟩ := H
        go_wp2_with (first | ((with_reducible refine gate_callee (f := 71) rfl ?_); refine goesL_ (some 62) rfl rfl Tryz.func71 (by kernel_rfl) rfl #[.string a0, .int .i64 1, .int .i64 a1] rfl (by (try simp only [List.map_toArray, List.map_cons, List.map_nil]); first | done | rfl | (simp only [List.length_drop, List.length_take]; rfl)) ?_; (with_reducible refine (larderref04_placed.calls k1 a0 1 a1 t1140102 t1140103 t1140104 t1140105 t1140106 _ A36.out).mono ?_); rintro e w37 ⟨rfl, hb⟩; refine ⟨_, rfl, ?_⟩; have n0_ := Aside0.mk (Kd.R_below (by (with_reducible repeat (first | apply Kd.R_alloc | apply Kd.R_drewN | apply Kd.R_drew)); exact HO_7.out) hb); have n1_ := Aside0.mk (blk_below (g := gb1140101) (o := .cells #[.int .i64 x1140102000_1, .int .i64 x1140102001_1, .int .i64 x1140102002_1, .int .i64 x1140102003_1, .int .i64 x1140102004_1] 46 (0, 0)) (by (with_reducible repeat (first | refine blk_drewN ?_ _ | refine blk_drew ?_ | refine blk_alloc ?_ _)); exact BK1140101.out) hb); have n2_ := Aside0.mk (below_step (by repeat (first | (with_reducible first | exact HB.out | apply below_alloc | apply pw_below_drewN | apply below_drew1 | refine below_set ?_ GE1140101.out) | exact HB.out)) hb); clear HO_7; clear BK1140101; clear HB; have HO_7 := n0_; have BK1140101 := n1_; have HB := n2_; clear n0_ n1_ n2_; (try clear hb); (try clear hb2); (try clear hk); (try clear hi); have hcz38_0 : w37.cell? ⟨gb1140101, 0, none⟩ = some (.int .i64 x1140102000_1) := (blk_cell BK1140101.out 0).trans rfl; have hcz38_1 : w37.cell? ⟨gb1140101, 1, none⟩ = some (.int .i64 x1140102001_1) := (blk_cell BK1140101.out 1).trans rfl; have hcz38_2 : w37.cell? ⟨gb1140101, 2, none⟩ = some (.int .i64 x1140102002_1) := (blk_cell BK1140101.out 2).trans rfl; have hcz38_3 : w37.cell? ⟨gb1140101, 3, none⟩ = some (.int .i64 x1140102003_1) := (blk_cell BK1140101.out 3).trans rfl; have hcz38_4 : w37.cell? ⟨gb1140101, 4, none⟩ = some (.int .i64 x1140102004_1) := (blk_cell BK1140101.out 4).trans rfl; have hfz38_0 := blk_frozen BK1140101.out 0; have hfz38_1 := blk_frozen BK1140101.out 1; have hfz38_2 := blk_frozen BK1140101.out 2; have hfz38_3 := blk_frozen BK1140101.out 3; have hfz38_4 := blk_frozen BK1140101.out 4))
        refine bodyPost_ret (results_list (rs := [.tmp 4, .tmp 5, .cell 6 46]) rfl (by simp) (.tmp (.tmp (.cell gb1140101 46 #[.int .i64 t1140102, .int .i64 t1140103, .int .i64 t1140104, .int .i64 t1140105, .int .i64 t1140106] (0, 0) _ rfl (by (with_reducible repeat (first | refine blk_drewN ?_ _ | refine blk_drew ?_ | refine blk_alloc ?_ _)); refine blk_put (cs := #[.int .i64 t1140102, .int .i64 t1140103, .int .i64 t1140104, .int .i64 t1140105, .int .i64 x1140102004_1]) ?_ 4 _ rfl; (with_reducible repeat (first | refine blk_drewN ?_ _ | refine blk_drew ?_ | refine blk_alloc ?_ _)); refine blk_put (cs := #[.int .i64 t1140102, .int .i64 t1140103, .int .i64 t1140104, .int .i64 x1140102003_1, .int .i64 x1140102004_1]) ?_ 3 _ rfl; (with_reducible repeat (first | refine blk_drewN ?_ _ | refine blk_drew ?_ | refine blk_alloc ?_ _)); refine blk_put (cs := #[.int .i64 t1140102, .int .i64 t1140103, .int .i64 x1140102002_1, .int .i64 x1140102003_1, .int .i64 x1140102004_1]) ?_ 2 _ rfl; (with_reducible repeat (first | refine blk_drewN ?_ _ | refine blk_drew ?_ | refine blk_alloc ?_ _)); refine blk_put (cs := #[.int .i64 t1140102, .int .i64 x1140102001_1, .int .i64 x1140102002_1, .int .i64 x1140102003_1, .int .i64 x1140102004_1]) ?_ 1 _ rfl; (with_reducible repeat (first | refine blk_drewN ?_ _ | refine blk_drew ?_ | refine blk_alloc ?_ _)); refine blk_put (cs := #[.int .i64 x1140102000_1, .int .i64 x1140102001_1, .int .i64 x1140102002_1, .int .i64 x1140102003_1, .int .i64 x1140102004_1]) ?_ 0 _ rfl; (with_reducible repeat (first | refine blk_drewN ?_ _ | refine blk_drew ?_ | refine blk_alloc ?_ _)); exact BK1140101.out) Tryz.underlying46 rfl (by kernel_rfl) .nil)))) rfl ?_
        exact ⟨by first | rfl | (simp [errW_none, errW_some] <;> rfl) | (simp [*, errW_none, errW_some] <;> rfl), by repeat (first | (with_reducible first | exact HB.out | apply below_alloc | apply pw_below_drewN | apply below_drew1 | refine below_set ?_ GE1140101.out) | exact HB.out)⟩

end Go.Proofs.YtappphffbnkloaaGreatDoor.GS
