-- written by a program (gp.py over the kit's print) for this claim
import Derived.Test.YtappphffbnkloaaGreatDoorGSx0
namespace Go.Proofs.YtappphffbnkloaaGreatDoor.GS
open Go.RowKit Go.Proofs.YtappphffbnkloaaGreatDoorW.PrintWords Go.Proofs.YtappphffbnkloaaGreatDoorW.PrintLast Go.Proofs.YtappphffbnkloaaGreatDoor.Ext
attribute [local go_sem] max2_int min2_int max_two min_two   -- for this text alone
set_option linter.unusedVariables false
set_option linter.unusedSimpArgs false

def larderref04_shows.j0 : Nat → ByteArray → Int → Bool → Int → Int → Int → Int → Int → Option (Bool)
  | 0, _, _, _, _, _, _, _, _ => none
  | k + 1, x0, x6, x7, x460102000, x460102001, x460102002, x460102003, x460102004 => if x7 = true then (some false) else (if x6 = 3 then (if 0 ≤ x460102003 then (if x460102003 < (x0.size : Int) then (if (bt x0 x460102003) = 10 then (some true) else (some (decide ((wrap64 (x460102003 + 1)) < (x0.size : Int))))) else (none)) else (none)) else (if x6 = 8 then (some (decide (x460102003 < (x0.size : Int)))) else (some true)))
def larderref04_shows.f (k : Nat) (a0 : ByteArray) (a1_0 : Int) (a1_1 : Int) (a1_2 : Int) (a1_3 : Int) (a1_4 : Int) : Option (Bool) := if a1_0 = 0 then (larderref04_shows.j0 k a0 a1_0 (a1_0 == 0) a1_0 a1_1 a1_2 a1_3 a1_4) else (larderref04_shows.j0 k a0 a1_0 (a1_0 == 1) a1_0 a1_1 a1_2 a1_3 a1_4)
theorem larderref04_shows.mono_l : ∀ k, (∀ y0 y1 y2 y3 y4 y5 y6 y7, LeO (larderref04_shows.j0 k y0 y1 y2 y3 y4 y5 y6 y7) (larderref04_shows.j0 (k + 1) y0 y1 y2 y3 y4 y5 y6 y7))
  | 0 => fun _ _ _ _ _ _ _ _ r h => by simp [larderref04_shows.j0] at h
  | k + 1 => by
    have ih0 := larderref04_shows.mono_l k
    · intro y0 y1 y2 y3 y4 y5 y6 y7
      unfold larderref04_shows.j0
      repeat' first
      | (with_reducible exact ih0 _ _ _ _ _ _ _ _)
      | (with_reducible exact LeO.refl _)
      | (with_reducible exact LeO.none _)
      | (with_reducible refine LeO.ite ?_ ?_)
      | (with_reducible refine LeO.bind ?_ (fun _ => ?_))
      | exact ih0 _ _ _ _ _ _ _ _
      | exact LeO.none _
      | refine LeO.ite ?_ ?_
      | refine LeO.bind ?_ (fun _ => ?_)
theorem larderref04_shows.mono : ∀ a0 a1 a2 a3 a4 a5 k, LeO (larderref04_shows.f k a0 a1 a2 a3 a4 a5) (larderref04_shows.f (k + 1) a0 a1 a2 a3 a4 a5) := by
  intro a0 a1 a2 a3 a4 a5 k
  have ih0 := larderref04_shows.mono_l k
  unfold larderref04_shows.f
  repeat' first
      | (with_reducible exact ih0 _ _ _ _ _ _ _ _)
      | (with_reducible exact LeO.refl _)
      | (with_reducible exact LeO.none _)
      | (with_reducible refine LeO.ite ?_ ?_)
      | (with_reducible refine LeO.bind ?_ (fun _ => ?_))
      | exact ih0 _ _ _ _ _ _ _ _
      | exact LeO.none _
      | refine LeO.ite ?_ ?_
      | refine LeO.bind ?_ (fun _ => ?_)
set_option maxHeartbeats 8000000 in
set_option maxRecDepth 100000 in
theorem larderref04_shows.calls (k : Nat) (a0 : ByteArray) (a1_0 : Int) (a1_1 : Int) (a1_2 : Int) (a1_3 : Int) (a1_4 : Int) (r : Bool) (w : World) (h : larderref04_shows.f k a0 a1_0 a1_1 a1_2 a1_3 a1_4 = some r) :
    Calls Tryz.prog 46 #[.string a0, .agg #[.int .i64 a1_0, .int .i64 a1_1, .int .i64 a1_2, .int .i64 a1_3, .int .i64 a1_4]] w fun e w' => e = .returned (.bool r) ∧ Below w.heap.size w w' := by
  have hu46 := Tryz.underlying46
  have HB := Aside0.mk (Below.refl w.heap.size w)
  have H : (if a1_0 = 0 then (larderref04_shows.j0 k a0 a1_0 (a1_0 == 0) a1_0 a1_1 a1_2 a1_3 a1_4) else (larderref04_shows.j0 k a0 a1_0 (a1_0 == 1) a1_0 a1_1 a1_2 a1_3 a1_4)) = some r := h
  clear h
  have HC3 := Aside0.mk H
  clear H
  go_enter Tryz.func46, Tryz.ntmps46
  go_upto_if 7 with (first | ((with_reducible refine gate_dst (N := 3) rfl ?_); refine box_event ?hg (N := 3) ?hd (cs := #[.int .i64 a1_0, .int .i64 a1_1, .int .i64 a1_2, .int .i64 a1_3, .int .i64 a1_4]) (t := 46) ?hr ?_; (case hd => rfl); (case hg => rfl); (case hr => first | (go_simp; done) | (go_simp; rfl)); intro gb460101 hg w4 hbox hb; have n0_ := Aside0.mk (below_step (by repeat (first | (with_reducible first | exact HB.out | apply below_alloc | apply pw_below_drewN | apply below_drew1) | exact HB.out)) hb); have n1_ := Aside0.mk (hbox); have n2_ := Aside0.mk ((by rw [hg]; exact (below_size (by repeat (first | (with_reducible first | exact HB.out | apply below_alloc | apply pw_below_drewN | apply below_drew1) | exact HB.out))) : w.heap.size ≤ gb460101)); have n3_ := Aside0.mk ((by rw [hg]; exact (below_size (by repeat (first | (with_reducible first | exact HB.out | apply below_alloc | apply pw_below_drewN | apply below_drew1) | exact HB.out))) : w.heap.size ≤ gb460101)); clear HB; have HB := n0_; have BK460101 := n1_; have GW460101 := n2_; have GE460101 := n3_; clear n0_ n1_ n2_ n3_; clear hb hbox hg; have hcz5_0 : w4.cell? ⟨gb460101, 0, none⟩ = some (.int .i64 a1_0) := (blk_cell BK460101.out 0).trans rfl; have hcz5_1 : w4.cell? ⟨gb460101, 1, none⟩ = some (.int .i64 a1_1) := (blk_cell BK460101.out 1).trans rfl; have hcz5_2 : w4.cell? ⟨gb460101, 2, none⟩ = some (.int .i64 a1_2) := (blk_cell BK460101.out 2).trans rfl; have hcz5_3 : w4.cell? ⟨gb460101, 3, none⟩ = some (.int .i64 a1_3) := (blk_cell BK460101.out 3).trans rfl; have hcz5_4 : w4.cell? ⟨gb460101, 4, none⟩ = some (.int .i64 a1_4) := (blk_cell BK460101.out 4).trans rfl; have hfz5_0 := blk_frozen BK460101.out 0; have hfz5_1 := blk_frozen BK460101.out 1; have hfz5_2 := blk_frozen BK460101.out 2; have hfz5_3 := blk_frozen BK460101.out 3; have hfz5_4 := blk_frozen BK460101.out 4))
  (try simp only [Act.put, List.setIfInBounds_toArray, List.set_cons_zero, List.set_cons_succ])
  go_cut [7] (fun v7 wc => ∃ (kq : Nat) (x7_2 : Bool), v7 = .bool x7_2 ∧ Aside0 (larderref04_shows.j0 kq a0 a1_0 x7_2 a1_0 a1_1 a1_2 a1_3 a1_4 = some r) ∧ Aside0 (kq ≤ k) ∧ Aside0 (wc.heap[gb460101]? = some (.cells #[.int .i64 a1_0, .int .i64 a1_1, .int .i64 a1_2, .int .i64 a1_3, .int .i64 a1_4] 46 (0, 0))) ∧ Aside0 (Below w.heap.size w wc))
  case first =>
    have H := HC3.out
    clear HC3
    by_cases c6 : a1_0 = 0
    · rw [if_pos c6] at H
      have c6b0 : (a1_0 == 0) = true := beq_iff_eq.mpr c6
      have c6b1 : (a1_0 != 0) = false := bne_eq_false_iff_eq.mpr c6
      clear c6
      (first | rw [c6b0] | (simp only [i64_w, i32_w]; rw [c6b0]) | skip)
      have H' := Aside0.mk H
      clear H
      go_wp2
      go_meet
      case rel => exact ⟨_, ((a1_0 == 0)), (by first | rfl | (simp; done) | (simp [*]; done)), H', ⟨by first | omega | exact Nat.le_refl _⟩, ⟨by (with_reducible repeat (first | refine blk_drewN ?_ _ | refine blk_drew ?_ | refine blk_alloc ?_ _)); exact BK460101.out⟩, ⟨by repeat (first | (with_reducible first | exact HB.out | apply below_alloc | apply pw_below_drewN | apply below_drew1 | refine below_set ?_ GE460101.out) | exact HB.out)⟩⟩
    · rw [if_neg c6] at H
      have c6b0 : (a1_0 == 0) = false := beq_eq_false_iff_ne.mpr c6
      have c6b1 : (a1_0 != 0) = true := bne_iff_ne.mpr c6
      (first | rw [c6b0] | (simp only [i64_w, i32_w]; rw [c6b0]) | skip)
      have H' := Aside0.mk H
      clear H
      go_wp2
      go_meet
      case rel => exact ⟨_, ((a1_0 == 1)), (by first | rfl | (simp; done) | (simp [*]; done)), H', ⟨by first | omega | exact Nat.le_refl _⟩, ⟨by (with_reducible repeat (first | refine blk_drewN ?_ _ | refine blk_drew ?_ | refine blk_alloc ?_ _)); exact BK460101.out⟩, ⟨by repeat (first | (with_reducible first | exact HB.out | apply below_alloc | apply pw_below_drewN | apply below_drew1 | refine below_set ?_ GE460101.out) | exact HB.out)⟩⟩
  case rest =>
    clear HC3
    try clear p2
    try clear c4
    try clear c6
    try clear c6b0
    try clear c6b1
    try clear hcz5_0
    try clear hcz5_1
    try clear hcz5_2
    try clear hcz5_3
    try clear hcz5_4
    try clear hfz5_0
    try clear hfz5_1
    try clear hfz5_2
    try clear hfz5_3
    try clear hfz5_4
    obtain ⟨kq, x7_2, rfl, HA, HJ2, BK460101, HB⟩ := hcut
    cases kq with
    | zero => exact absurd HA.out (by simp [larderref04_shows.j0])
    | succ kj2 =>
      have H := HA.out
      clear HA
      simp only [larderref04_shows.j0] at H
      by_cases c7 : x7_2 = true
      · subst c7
        have H1 : (some false) = some r := by rw [if_pos rfl] at H; exact H
        clear H
        have H := H1
        clear H1
        obtain rfl := Option.some.inj H
        go_wp2
        go_ret
        exact ⟨by first | rfl | (simp [errW_none, errW_some] <;> rfl) | (simp [*, errW_none, errW_some] <;> rfl), by repeat (first | (with_reducible first | exact HB.out | apply below_alloc | apply pw_below_drewN | apply below_drew1 | refine below_set ?_ GE460101.out) | exact HB.out)⟩
      · replace c7 := Bool.eq_false_iff.mpr c7
        subst c7
        have H1 : (if a1_0 = 3 then (if 0 ≤ a1_3 then (if a1_3 < (a0.size : Int) then (if (bt a0 a1_3) = 10 then (some true) else (some (decide ((wrap64 (a1_3 + 1)) < (a0.size : Int))))) else (none)) else (none)) else (if a1_0 = 8 then (some (decide (a1_3 < (a0.size : Int)))) else (some true))) = some r := by rw [if_neg (show ¬ (false = true) by decide)] at H; exact H
        clear H
        have H := H1
        clear H1
        by_cases c8 : a1_0 = 3
        · rw [if_pos c8] at H
          have c8b0 : (a1_0 == 3) = true := beq_iff_eq.mpr c8
          have c8b1 : (a1_0 != 3) = false := bne_eq_false_iff_eq.mpr c8
          clear c8
          by_cases c9 : 0 ≤ a1_3
          · rw [if_pos c9] at H
            have c9b0 : decide (0 ≤ a1_3) = true := decide_eq_true c9
            clear c9
            by_cases c10 : a1_3 < (a0.size : Int)
            · rw [if_pos c10] at H
              have c10b0 : decide (a1_3 < (a0.size : Int)) = true := decide_eq_true c10
              clear c10
              by_cases c12 : (bt a0 a1_3) = 10
              · rw [if_pos c12] at H
                have c12b0 : ((bt a0 a1_3) == 10) = true := beq_iff_eq.mpr c12
                have c12b1 : ((bt a0 a1_3) != 10) = false := bne_eq_false_iff_eq.mpr c12
                clear c12
                obtain rfl := Option.some.inj H
                have hcz13_0 : wc.cell? ⟨gb460101, 0, none⟩ = some (.int .i64 a1_0) := (blk_cell BK460101.out 0).trans rfl
                have hcz13_1 : wc.cell? ⟨gb460101, 1, none⟩ = some (.int .i64 a1_1) := (blk_cell BK460101.out 1).trans rfl
                have hcz13_2 : wc.cell? ⟨gb460101, 2, none⟩ = some (.int .i64 a1_2) := (blk_cell BK460101.out 2).trans rfl
                have hcz13_3 : wc.cell? ⟨gb460101, 3, none⟩ = some (.int .i64 a1_3) := (blk_cell BK460101.out 3).trans rfl
                have hcz13_4 : wc.cell? ⟨gb460101, 4, none⟩ = some (.int .i64 a1_4) := (blk_cell BK460101.out 4).trans rfl
                have hfz13_0 := blk_frozen BK460101.out 0
                have hfz13_1 := blk_frozen BK460101.out 1
                have hfz13_2 := blk_frozen BK460101.out 2
                have hfz13_3 := blk_frozen BK460101.out 3
                have hfz13_4 := blk_frozen BK460101.out 4
                have p11 : 0 ≤ (a1_3 : Int) := of_decide_eq_true (by first | (with_reducible assumption) | assumption)
                have q11 : a1_3 < (a0.size : Int) := of_decide_eq_true (by first | (with_reducible assumption) | assumption)
                have hx11 := bt_at a0 a1_3
                replace p11 := eq_true p11
                replace q11 := eq_true q11
                go_wp2
                go_ret
                exact ⟨by first | rfl | (simp [errW_none, errW_some] <;> rfl) | (simp [*, errW_none, errW_some] <;> rfl), by repeat (first | (with_reducible first | exact HB.out | apply below_alloc | apply pw_below_drewN | apply below_drew1 | refine below_set ?_ GE460101.out) | exact HB.out)⟩
              · rw [if_neg c12] at H
                have c12b0 : ((bt a0 a1_3) == 10) = false := beq_eq_false_iff_ne.mpr c12
                have c12b1 : ((bt a0 a1_3) != 10) = true := bne_iff_ne.mpr c12
                obtain rfl := Option.some.inj H
                have hcz14_0 : wc.cell? ⟨gb460101, 0, none⟩ = some (.int .i64 a1_0) := (blk_cell BK460101.out 0).trans rfl
                have hcz14_1 : wc.cell? ⟨gb460101, 1, none⟩ = some (.int .i64 a1_1) := (blk_cell BK460101.out 1).trans rfl
                have hcz14_2 : wc.cell? ⟨gb460101, 2, none⟩ = some (.int .i64 a1_2) := (blk_cell BK460101.out 2).trans rfl
                have hcz14_3 : wc.cell? ⟨gb460101, 3, none⟩ = some (.int .i64 a1_3) := (blk_cell BK460101.out 3).trans rfl
                have hcz14_4 : wc.cell? ⟨gb460101, 4, none⟩ = some (.int .i64 a1_4) := (blk_cell BK460101.out 4).trans rfl
                have hfz14_0 := blk_frozen BK460101.out 0
                have hfz14_1 := blk_frozen BK460101.out 1
                have hfz14_2 := blk_frozen BK460101.out 2
                have hfz14_3 := blk_frozen BK460101.out 3
                have hfz14_4 := blk_frozen BK460101.out 4
                have p11 : 0 ≤ (a1_3 : Int) := of_decide_eq_true (by first | (with_reducible assumption) | assumption)
                have q11 : a1_3 < (a0.size : Int) := of_decide_eq_true (by first | (with_reducible assumption) | assumption)
                have hx11 := bt_at a0 a1_3
                replace p11 := eq_true p11
                replace q11 := eq_true q11
                go_wp2
                go_ret
                exact ⟨by first | rfl | (simp [errW_none, errW_some] <;> rfl) | (simp [*, errW_none, errW_some] <;> rfl), by repeat (first | (with_reducible first | exact HB.out | apply below_alloc | apply pw_below_drewN | apply below_drew1 | refine below_set ?_ GE460101.out) | exact HB.out)⟩
            · rw [if_neg c10] at H
              exact absurd H (by simp)
          · rw [if_neg c9] at H
            exact absurd H (by simp)
        · rw [if_neg c8] at H
          have c8b0 : (a1_0 == 3) = false := beq_eq_false_iff_ne.mpr c8
          have c8b1 : (a1_0 != 3) = true := bne_iff_ne.mpr c8
          by_cases c15 : a1_0 = 8
          · rw [if_pos c15] at H
            have c15b0 : (a1_0 == 8) = true := beq_iff_eq.mpr c15
            have c15b1 : (a1_0 != 8) = false := bne_eq_false_iff_eq.mpr c15
            clear c15
            obtain rfl := Option.some.inj H
            have hcz16_0 : wc.cell? ⟨gb460101, 0, none⟩ = some (.int .i64 a1_0) := (blk_cell BK460101.out 0).trans rfl
            have hcz16_1 : wc.cell? ⟨gb460101, 1, none⟩ = some (.int .i64 a1_1) := (blk_cell BK460101.out 1).trans rfl
            have hcz16_2 : wc.cell? ⟨gb460101, 2, none⟩ = some (.int .i64 a1_2) := (blk_cell BK460101.out 2).trans rfl
            have hcz16_3 : wc.cell? ⟨gb460101, 3, none⟩ = some (.int .i64 a1_3) := (blk_cell BK460101.out 3).trans rfl
            have hcz16_4 : wc.cell? ⟨gb460101, 4, none⟩ = some (.int .i64 a1_4) := (blk_cell BK460101.out 4).trans rfl
            have hfz16_0 := blk_frozen BK460101.out 0
            have hfz16_1 := blk_frozen BK460101.out 1
            have hfz16_2 := blk_frozen BK460101.out 2
            have hfz16_3 := blk_frozen BK460101.out 3
            have hfz16_4 := blk_frozen BK460101.out 4
            go_wp2
            go_ret
            exact ⟨by first | rfl | (simp [errW_none, errW_some] <;> rfl) | (simp [*, errW_none, errW_some] <;> rfl), by repeat (first | (with_reducible first | exact HB.out | apply below_alloc | apply pw_below_drewN | apply below_drew1 | refine below_set ?_ GE460101.out) | exact HB.out)⟩
          · rw [if_neg c15] at H
            have c15b0 : (a1_0 == 8) = false := beq_eq_false_iff_ne.mpr c15
            have c15b1 : (a1_0 != 8) = true := bne_iff_ne.mpr c15
            obtain rfl := Option.some.inj H
            go_wp2
            go_ret
            exact ⟨by first | rfl | (simp [errW_none, errW_some] <;> rfl) | (simp [*, errW_none, errW_some] <;> rfl), by repeat (first | (with_reducible first | exact HB.out | apply below_alloc | apply pw_below_drewN | apply below_drew1 | refine below_set ?_ GE460101.out) | exact HB.out)⟩

end Go.Proofs.YtappphffbnkloaaGreatDoor.GS
